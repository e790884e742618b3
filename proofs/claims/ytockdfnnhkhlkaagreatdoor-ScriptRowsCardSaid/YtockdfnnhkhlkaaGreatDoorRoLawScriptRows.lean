/- ScriptRows: any bytes as rows. For all bytes. -/
import Derived.Test.YtockdfnnhkhlkaaGreatDoorRoZKnown15
import Derived.Test.YtockdfnnhkhlkaaGreatDoorRoZRRows
import Derived.Test.YtockdfnnhkhlkaaGreatDoorRoFrameZ
import Derived.Test.YtockdfnnhkhlkaaGreatDoorRoArgBytes
namespace Go.Proofs.YtockdfnnhkhlkaaGreatDoor.LawScriptRows
open Go.Proofs.YtockdfnnhkhlkaaGreatDoor.ArgBytes Go.ChangeShapes Go.WideShapes Go.ChangeAt Go.RowKit Go.Shelf Go.Proofs.YtockdfnnhkhlkaaGreatDoor.G Go.Proofs.YtockdfnnhkhlkaaGreatDoor.Frame Go.Proofs.YtockdfnnhkhlkaaGreatDoor.PNum Go.Proofs.YtockdfnnhkhlkaaGreatDoorW.PrintWords Go.Proofs.YtockdfnnhkhlkaaGreatDoorW.PrintLast Go.Proofs.YtockdfnnhkhlkaaGreatDoorW.PrintMore
set_option linter.unusedVariables false
set_option linter.unusedSimpArgs false

theorem rows_few : ∀ n (b : List Int), b.length ≤ n → (rowsL b).length ≤ b.length := by
  intro n
  induction n with
  | zero =>
    intro b hb
    have : b = [] := List.length_eq_zero_iff.1 (Nat.le_zero.1 hb)
    subst this
    rw [show rowsL [] = [] from rowsL_none rfl]
    exact Nat.le_refl _
  | succ n ih =>
    intro b hb
    cases hT : cutN b with
    | none => rw [rowsL_none hT]; exact Nat.zero_le _
    | some y =>
      obtain ⟨p, s⟩ := y
      have hs := cutN_size hT
      have := ih (b.drop s) (by rw [List.length_drop]; omega)
      rw [List.length_drop] at this
      rw [rowsL_some hT, List.length_cons]
      omega
theorem at_row {w : World} {A : Option Addr} {n : Nat} {xs : List (List Int)} (h : KRow.C w A n xs) (i : Int) (h0 : 0 ≤ i) (h1 : i < n) : ∃ ad Ai ci, A = some ad ∧ w.cell? (ad.add i.toNat) = some (.slice Ai (xs.getD i.toNat []).length ci) ∧ Kd.C (Kd.int .u8) w Ai (xs.getD i.toNat []).length (xs.getD i.toNat []) := by
  obtain ⟨ad, c, e, _, hK, hc0⟩ := Kd.C_get h [] i h0 h1
  obtain ⟨Ai, ci, rfl, hle, hC⟩ := hK
  have h2 := hc0 0 _ rfl
  have e2 : KRow.sz = 1 := rfl
  rw [e2, Nat.mul_one, Nat.add_zero] at h2
  exact ⟨ad, Ai, ci, e, h2, hC⟩
theorem at_sl {w : World} {A : Option Addr} {n : Nat} {xs : List Sl} (h : KSl.C w A n xs) (i : Int) (h0 : 0 ≤ i) (h1 : i < n) : ∃ ad t, A = some ad ∧ xs[i.toNat]? = some t ∧ w.cell? (ad.add i.toNat) = some (.slice t.1 t.2.1 t.2.2) := by
  obtain ⟨ad, c, e, _, hK, hc0⟩ := Kd.C_get h (none, 0, 0) i h0 h1
  have hK' : c = [.slice (xs.getD i.toNat (none, 0, 0)).1 (xs.getD i.toNat (none, 0, 0)).2.1 (xs.getD i.toNat (none, 0, 0)).2.2] := hK
  subst hK'
  have h2 := hc0 0 _ rfl
  have e2 : KSl.sz = 1 := rfl
  rw [e2, Nat.mul_one, Nat.add_zero] at h2
  refine ⟨ad, _, e, ?_, h2⟩
  have hl : i.toNat < xs.length := by have := h.1; omega
  rw [List.getD_eq_getElem?_getD, List.getElem?_eq_getElem hl]
  rfl

set_option maxRecDepth 100000 in
set_option maxHeartbeats 2000000 in
theorem walk0 (A0 : Option Addr) (c0 : Nat) (b : List Int) (w : World) (hbl : 3000 < b.length) : Calls Tryz.prog 4 #[.slice A0 b.length c0] w fun e w' => e = .returned (.bool true) ∧ Below w.heap.size w w' := by
  have h1 : 3000 < (b.length : Int) := by omega
  go_enter Tryz.func4, Tryz.ntmps4
  go_wp2
  go_ret
  exact ⟨rfl, Below.refl _ _⟩
set_option maxRecDepth 100000 in
set_option maxHeartbeats 8000000 in
theorem walk (A0 : Option Addr) (c0 : Nat) (b : List Int) (w : World) (hr0 : Kd.C (Kd.int .u8) w A0 b.length b) (hc0 : b.length ≤ c0) (hb : IsBytes b) (hbl : b.length ≤ 3000) :
    Calls Tryz.prog 4 #[.slice A0 b.length c0] w fun e w' => e = .returned (.bool true) ∧ Below w.heap.size w w' := by
  have h1 : ¬ 3000 < (b.length : Int) := by omega
  have hrf := rows_few b.length b (Nat.le_refl _)
  have HRW := Aside0.mk (althinglaw15_rows.calls_ A0 c0 b w hr0 hc0 hb (by omega) (by omega))
  have HRR : Aside0 (∀ W, Below w.heap.size w W → Calls Tryz.prog 19 #[.slice A0 b.length c0] W fun e w' => ∃ v ts er, e = .returned (.tuple #[v, .bool er]) ∧ KSl.R 50 w' W.heap.size (fun k => W.heap.size + 1 ≤ k) v ts ∧ SlsOk W.heap.size w' ts (rowsL b) ∧ Below W.heap.size W w') := ⟨fun W hW => rrows_calls A0 c0 b W (Kd.C_below hr0 hW) hc0 hb (by omega)⟩
  have HN : Aside0 ((rowsL b).length ≤ 3000) := ⟨by omega⟩
  clear hr0 hc0 hb hbl hrf
  go_enter Tryz.func4, Tryz.ntmps4
  go_upto_region 5 with (first
    | (go_at_call 18; go_loud (refine HRW.out.mono ?_; rintro e w1 ⟨v1, rfl, hS, hb⟩; obtain ⟨A1, c1, hv1, _, hC1⟩ := Kd.S_reads hS; subst hv1; have HC1 := Aside0.mk hC1; have HB1 := Aside0.mk hb; clear hS hC1 hb))
    | (go_at_call 19; go_loud (refine (HRR.out _ HB1.out).mono ?_; rintro e w2 ⟨v2, ts, er, rfl, hR, hS, hb⟩; obtain ⟨A2, c2, hv2, _, hC2⟩ := Kd.R_reads hR; subst hv2; have HZ12 := Aside0.mk hb.size; have HTL : Aside0 (ts.length = (rowsL b).length) := ⟨hS.1⟩; have HC2 := Aside0.mk hC2; have HS2 := Aside0.mk hS; have HC12 := Aside0.mk (Kd.C_below HC1.out hb); have HB2 := Aside0.mk (HB1.out.trans (hb.mono HB1.out.size)); clear hR hC2 hS hb)))
  obtain ⟨n, hn⟩ : ∃ n, n = (rowsL b).length := ⟨_, rfl⟩
  have hl := HTL.out
  have hcc := HC12.out
  have hc2 := HC2.out
  rw [hl] at hc2
  rw [hl]
  rw [← hn] at hcc hc2 ⊢
  have HCA := Aside0.mk hcc
  have HCB := Aside0.mk hc2
  have HNN : Aside0 (n ≤ 3000) := ⟨by have := HN.out; omega⟩
  have HNE := Aside0.mk hn
  clear hl hcc hc2 hn
  go_upto_region 8 with (fail)
  go_loopw [7] (fun i wr => ∃ x : Int, i = .int .i64 x ∧ (0 ≤ x ∧ x ≤ n) ∧ Aside0 (Below w2.heap.size w2 wr)) (fun i _ => n - (intOf i).toNat)
  case atStart => exact ⟨0, rfl, ⟨by omega, by omega⟩, ⟨Below.refl _ _⟩⟩
  case round =>
    obtain ⟨x, rfl, ⟨hx0, hx1⟩, HBr⟩ := hrel
    by_cases hx : x < n
    · obtain ⟨ad1, Ai, ci, rfl, q1, hCi⟩ := at_row (Kd.C_below HCA.out HBr.out) x hx0 hx
      obtain ⟨ad2, t, rfl, ht, q2⟩ := at_sl (Kd.C_below HCB.out HBr.out) x hx0 hx
      obtain ⟨t1, t2, t3⟩ := t
      have hso := (HS2.out.2 x.toNat (t1, t2, t3) ((rowsL b).getD x.toNat []) ht (by rw [List.getD_eq_getElem?_getD, List.getElem?_eq_getElem (by have := HNE.out; omega)]; rfl)).below (fun k hk => HBr.out.block k (Nat.lt_of_lt_of_le hk HZ12.out))
      obtain ⟨e2, _, hCt, _⟩ := hso
      simp only at e2 hCt q2
      generalize (rowsL b).getD x.toNat [] = p at q1 hCi e2 hCt
      subst e2
      obtain ⟨s, hs⟩ : ∃ s, s = strOfNums p := ⟨_, rfl⟩
      have HG : Aside0 (∀ W, Below wr.heap.size wr W → W.cell? (ad1.add x.toNat) = some (.slice Ai p.length ci) ∧ W.cell? (ad2.add x.toNat) = some (.slice t1 p.length t3) ∧ (convert 50 9 (.slice Ai p.length ci)).run Tryz.prog W = .ok (.string s) W ∧ (convert 50 9 (.slice t1 p.length t3)).run Tryz.prog W = .ok (.string s) W) := ⟨fun W hW => by
        rw [hs]
        exact ⟨cell_below q1 hW, cell_below q2 hW, Kd.C_string Tryz.underlying50 Tryz.underlying5 Tryz.underlying9 (Kd.C_below hCi hW), Kd.C_string Tryz.underlying50 Tryz.underlying5 Tryz.underlying9 (Kd.C_below hCt hW)⟩⟩
      have e1 : IntKind.i64.wrap (x + 1) = x + 1 := IntWalk.i64_in _ (by have := HNN.out; omega)
      have e1' : wrap64 (x + 1) = x + 1 := wrapI (by omega) (by have := HNN.out; omega)
      clear hs q1 q2 hCi hCt ht
      go_upto_region 10 with (fail)
      go_region_held3 (fun w' => w'.cell? (ad1.add x.toNat) = some (.slice Ai p.length ci) ∧ w'.cell? (ad2.add x.toNat) = some (.slice t1 p.length t3) ∧ (convert 50 9 (.slice Ai p.length ci)).run Tryz.prog w' = .ok (.string s) w' ∧ (convert 50 9 (.slice t1 p.length t3)).run Tryz.prog w' = .ok (.string s) w') (exact HG.out _ (Below.drew (Below.refl _ _))) (fail)
      go_wp2
      exact ⟨⟨x + 1, rfl, ⟨by omega, by omega⟩, ⟨HBr.out.drew⟩⟩, by simp [intOf]; omega⟩
    · have e3 : x = n := by omega
      subst e3
      go_wp2_with (go_at_call 20; go_loud (refine (known15_calls _).mono ?_; rintro e w8 ⟨rfl, hb⟩; have HB8 := Aside0.mk ((HB2.out.trans (HBr.out.mono HB2.out.size)).trans (hb.mono (HB2.out.trans (HBr.out.mono HB2.out.size)).size)); clear hb))
      go_ret
      exact ⟨rfl, HB8.out⟩
set_option maxRecDepth 100000 in
theorem walks : WalksD 4 Tryz.f4 := by
  intro H enc W base args ds ps hval hA _ _ _
  rw [Tryz.params4] at hA hval
  obtain ⟨v0, d0, rfl, rfl, h0⟩ := trodAll_one hA
  obtain ⟨A0, _, c0, b, rfl, ⟨hC0, hc0⟩, rfl, hB0⟩ := open_bytes (hval 0 50 v0 rfl rfl) h0
  by_cases h : 3000 < b.length
  · exact walk0 A0 c0 b W h
  · exact walk A0 c0 b W hC0 hc0 hB0 (by omega)
set_option maxRecDepth 100000 in
theorem rowed (os : Os) (started : os.Started) (H : Type) (enc : TypeId × Value → H) :
    ReturnsInHanded {} Tryz.checked os 4 .any (fun w args => (Rows.scriptRowsSpec.pre enc Tryz.prog Tryz.f4 [] false w args ∧ laidMetH Tryz.prog laidL w) ∧ sizedMet enc Tryz.prog Tryz.f4 (OpenSpec.ofChange Rows.scriptRowsSpec) false w args) (Rows.scriptRowsSpec.post enc Tryz.prog Tryz.f4 false true false false) :=
  liftedD (s := Rows.scriptRowsSpec) Tryz.func4 (by kernel_rfl) (by kernel_rfl) (by kernel_rfl) (by kernel_rfl) rfl
    (fun H ds h => by
      have h' : ds.length = 1 := h
      match ds, h' with
      | [d1], _ => rfl)
    os started H enc
    (ChangeSpec.witness_shaped (enc := enc) (C := Tryz.checked) (os := os) (X := fun w _ => laidMetH Tryz.prog laidL w) false (World.laidAll Tryz.prog os laidL) #[.slice none 0 0] 8 (World.laidAll_os _ _ _)
      (World.shaped_of_ZipB (by kernel_rfl) (by kernel_rfl)) (by kernel_rfl) (by kernel_rfl) (by kernel_rfl)
      (by rw [MakeChecks.laidMetH_plain _ _ _ (by kernel_rfl)]; exact laidMet_laidAll _ (by kernel_rfl) (by kernel_rfl))) walks
set_option maxRecDepth 100000 in
theorem fact0 : (Rows.scriptRowsRow.inPlace == Tryz.prog.inPlace 4) = true := by kernel_rfl
set_option maxRecDepth 100000 in
theorem fact1 : (Rows.scriptRowsRow.unfollowed == Tryz.prog.unfollowed 4) = true := by kernel_rfl
set_option maxRecDepth 100000 in
theorem fact2 : (Rows.scriptRowsRow.recurses == Tryz.prog.recurses 4) = true := by kernel_rfl
set_option maxRecDepth 100000 in
theorem fact3 : (Rows.scriptRowsRow.named == Tryz.prog.varsNamed 4) = true := by kernel_rfl
set_option maxRecDepth 100000 in
theorem closed : joinedFacts Tryz.prog 4 Tryz.f4 Rows.scriptRowsSpec Rows.scriptRowsRow = true := by
  unfold joinedFacts
  rw [fact0, fact1, fact2, fact3]
  kernel_rfl
theorem over : Rows.scriptRowsRow.holds Tryz.pinned (OpenSpec.ofChange Rows.scriptRowsSpec) :=
  OpenClaim.holds_of_wide 4 Tryz.f4 rfl rfl rfl rfl rfl rfl rfl ⟨rfl, rfl, rfl, rfl, rfl⟩ rfl rfl rfl rfl rfl (by kernel_rfl) Tryz.func4 closed
    (of_decide_eq_true (by kernel_rfl)) (by unfold Func.isWrapper; first | (rw [if_pos (by decide +kernel)]; kernel_rfl) | (rw [if_neg (by decide +kernel)]; exact ⟨rfl, rfl⟩))
    (fun os started H enc _ => rowed os started H enc)
theorem card : Rows.ScriptRowsCardSaid :=
  Claim7.holds_tied_plain_at .later [] [.listed, .data] true (true, "ca017903dae1be76a6120c8c46aca48e3904b56abb20938806a391cecf5c85d9") false over (fun _ h => by cases h) (by kernel_rfl) (fun _ h => by cases h) scriptRows_row_tie rfl ⟨rfl, rfl⟩ (by kernel_rfl) rfl
    (fun f fn hf hfn => by
      obtain rfl : f = 4 := Option.some.inj ((show Tryz.prog.funcNamed "althing/althinglaw15.ScriptRows" = some 4 by kernel_rfl).symm.trans hf) |>.symm
      obtain rfl : fn = Tryz.f4 := (Option.some.inj (Tryz.func4.symm.trans hfn)).symm
      exact ⟨by kernel_rfl, fun j t ht => by
        have hm : t ∈ Tryz.f4.params.toList := by simpa using Array.mem_of_getElem? ht
        have hall : (Tryz.f4.params.toList.all fun u => !Tryz.prog.wantsStandIn u) = true := by kernel_rfl
        exact (show Tryz.prog.wantsStandIn t = false by simpa using List.all_eq_true.1 hall t hm)⟩)
    (by kernel_rfl)
end Go.Proofs.YtockdfnnhkhlkaaGreatDoor.LawScriptRows
namespace Go.Proofs.YtockdfnnhkhlkaaGreatDoor
/-- The row's card, under a short name, for the claim. -/
theorem scriptRows_holds : Rows.ScriptRowsCardSaid := LawScriptRows.card
end Go.Proofs.YtockdfnnhkhlkaaGreatDoor
