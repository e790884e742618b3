/- ScriptMakes: rows that are made into bytes are told as they were. For all rows, together no more than so many. -/
import Derived.Test.YtockdfnnhkhlkaaGreatDoorMkZKnown15
import Derived.Test.YtockdfnnhkhlkaaGreatDoorMkZRows15
import Derived.Test.YtockdfnnhkhlkaaGreatDoorMkFrameZU
import Derived.Test.YtockdfnnhkhlkaaGreatDoorMkGx10
namespace Go.Proofs.YtockdfnnhkhlkaaGreatDoor.LawScriptMakes
open Go.ChangeShapes Go.WideShapes Go.ChangeAt Go.RowKit Go.Shelf Go.Proofs.YtockdfnnhkhlkaaGreatDoor.G Go.Proofs.YtockdfnnhkhlkaaGreatDoor.Frame Go.Proofs.YtockdfnnhkhlkaaGreatDoor.PNum Go.Proofs.YtockdfnnhkhlkaaGreatDoorW.PrintWords Go.Proofs.YtockdfnnhkhlkaaGreatDoorW.PrintLast Go.Proofs.YtockdfnnhkhlkaaGreatDoorW.PrintMore
set_option linter.unusedVariables false
set_option linter.unusedSimpArgs false

theorem at_row {w : World} {A : Option Addr} {n : Nat} {xs : List (List Int)} (h : KRow.C w A n xs) (i : Int) (h0 : 0 ≤ i) (h1 : i < n) : ∃ ad Ai ci, A = some ad ∧ w.cell? (ad.add i.toNat) = some (.slice Ai (xs.getD i.toNat []).length ci) ∧ Kd.C (Kd.int .u8) w Ai (xs.getD i.toNat []).length (xs.getD i.toNat []) := by
  obtain ⟨ad, c, e, _, hK, hc0⟩ := Kd.C_get h [] i h0 h1
  obtain ⟨Ai, ci, rfl, hle, hC⟩ := hK
  have h2 := hc0 0 _ rfl
  have e2 : KRow.sz = 1 := rfl
  rw [e2, Nat.mul_one, Nat.add_zero] at h2
  exact ⟨ad, Ai, ci, e, h2, hC⟩
theorem size_take (l : List (List Int)) (i : Nat) (h : i < l.length) : rowsSize (l.take (i + 1)) = rowsSize (l.take i) + (1 + (l.getD i []).length) := by
  unfold rowsSize
  rw [List.take_add_one, List.getD_eq_getElem?_getD, List.getElem?_eq_getElem h, List.map_append, List.sum_append]
  simp only [Option.toList_some, List.map_cons, List.map_nil, List.sum_cons, List.sum_nil, Nat.add_zero, Option.getD_some]
theorem size_take_le (l : List (List Int)) (i : Nat) : rowsSize (l.take i) ≤ rowsSize l := by
  rw [← List.take_append_drop i l]
  unfold rowsSize
  rw [List.take_append_drop]
  conv => rhs; rw [← List.take_append_drop i l, List.map_append, List.sum_append]
  exact Nat.le_add_right _ _

theorem cutN_put (p t : List Int) (hp : p.length ≤ 1048576) : cutN (rowB p ++ t) = some (p, (rowB p).length) := by
  unfold cutN rowB
  rw [List.append_assoc, takeN_put (by omega) (by omega)]
  dsimp only
  rw [if_neg (by rw [List.length_append, numB_length, List.length_append]; omega), Int.toNat_natCast, List.length_append, numB_length]
  congr 2
  rw [← List.append_assoc, List.take_left' (by rw [List.length_append, numB_length]), List.drop_left' (numB_length _)]
theorem rowsL_put (l : List (List Int)) (hl : ∀ p ∈ l, p.length ≤ 1048576) : rowsL (rowsB l) = l := by
  induction l with
  | nil => exact rowsL_none (by simp [rowsB, cutN, takeN])
  | cons p l ih => rw [rowsB_cons, rowsL_some (cutN_put p _ (hl p (by simp))), List.drop_left' rfl, ih (fun q hq => hl q (by simp [hq]))]
theorem mem_fits {p : List (List Int)} {q : List Int} (h : q ∈ p) : q.length ≤ rowsSize p := by
  induction p with
  | nil => cases h
  | cons x p ih =>
    rw [rowsSize_cons]
    rcases List.mem_cons.1 h with rfl | h
    · omega
    · have := ih h; omega
set_option maxRecDepth 100000 in
set_option maxHeartbeats 8000000 in
theorem walk (A0 : Option Addr) (c0 : Nat) (l : List (List Int)) (w : World) (hr0 : KRow.C w A0 l.length l) (hc0 : l.length ≤ c0) (hb : ∀ x ∈ l, IsBytes x) (hs : rowsSize l ≤ 1048576) :
    Calls Tryz.prog 6 #[.slice A0 l.length c0] w fun e w' => e = .returned (.bool true) ∧ Below w.heap.size w w' := by
  have hll := length_le_rowsSize l
  have HL0 := Aside0.mk hll
  have HS := Aside0.mk hs
  have HC := Aside0.mk hr0
  have HBY := Aside0.mk hb
  have HC0 := Aside0.mk hc0
  clear hr0 hb hll hs hc0
  go_enter Tryz.func6, Tryz.ntmps6
  go_upto_region 3 with (fail)
  go_loopw [3, 4] (fun s i wr => ∃ x : Int, i = .int .i64 x ∧ s = .int .i64 (rowsSize (l.take x.toNat) : Nat) ∧ (0 ≤ x ∧ x ≤ l.length) ∧ wr = w) (fun _ i _ => l.length - (intOf i).toNat)
  case atStart => exact ⟨0, rfl, rfl, ⟨by omega, by omega⟩, rfl⟩
  case round =>
    obtain ⟨x, rfl, rfl, ⟨hx0, hx1⟩, hw_⟩ := hrel
    subst hw_
    by_cases hx : x < l.length
    · obtain ⟨ad1, Ai, ci, rfl, q1, hCi⟩ := at_row HC.out x hx0 hx
      have h1 := size_take l x.toNat (by omega)
      have h2 := size_take_le l (x.toNat + 1)
      have h3 := HS.out
      have h4 := HL0.out
      obtain ⟨p, hp⟩ : ∃ p, p = l.getD x.toNat [] := ⟨_, rfl⟩
      rw [← hp] at h1 q1
      obtain ⟨s0, hs0⟩ : ∃ s0 : Nat, s0 = rowsSize (l.take x.toNat) := ⟨_, rfl⟩
      rw [← hs0] at h1 ⊢
      have e1 : wrap64 (x + 1) = x + 1 := wrapI (by omega) (by omega)
      have e2 : wrap64 (wrap64 ((s0 : Int) + 1) + (p.length : Int)) = ((s0 + (1 + p.length) : Nat) : Int) := by
        rw [wrapI (a := (s0 : Int) + 1) (by omega) (by omega), wrapI (by omega) (by omega)]
        omega
      have HE : Aside0 (rowsSize (l.take (x + 1).toNat) = s0 + (1 + p.length)) := ⟨by rw [show (x + 1).toNat = x.toNat + 1 by omega]; exact h1⟩
      clear h1 h2 h3 h4 hp hs0 hCi
      go_wp2
      refine ⟨⟨x + 1, by rw [e1], ?_, ⟨by omega, by omega⟩, trivial⟩, by simp [intOf, e1]; omega⟩
      rw [HE.out, e2]
    · have e3 : x = l.length := by omega
      subst e3
      have e4 : l.take (l.length : Int).toNat = l := by simp
      rw [e4]
      by_cases h5 : 3000 < rowsSize l
      · have h6 : 3000 < ((rowsSize l : Nat) : Int) := by omega
        go_wp2
        go_ret
        exact ⟨rfl, Below.refl _ _⟩
      · have h6 : ¬ 3000 < ((rowsSize l : Nat) : Int) := by omega
        have hmk := row_tells (l.length + 11) [] l (by omega) (Nat.le_refl _) (by have := HL0.out; simp; omega)
        rw [List.nil_append] at hmk
        have hmk' : script_Make.f (l.length + 11) l = some (rowsB l) := by unfold script_Make.f; rw [hmk]; rfl
        have hfit : ∀ q ∈ l, q.length ≤ 1048576 := fun q hq => by have := mem_fits hq; omega
        have hlen := rowsB_length l
        have HMK := Aside0.mk (script_Make.calls (l.length + 11) A0 c0 l (rowsB l) wr HC.out HC0.out hmk')
        have HRL := Aside0.mk (rowsL_put l hfit)
        have HRB := Aside0.mk (rowsB_bytes HBY.out)
        have HRN : Aside0 ((rowsB l).length ≤ 70000000000000) := ⟨by omega⟩
        have HLN : Aside0 (l.length ≤ 3000) := ⟨by have := HL0.out; omega⟩
        clear hmk hmk' hfit hlen e4 h5
        go_upto_region 12 with (first
          | (go_at_call 22; go_loud (refine HMK.out.mono ?_; rintro e w1 ⟨v1, rfl, hR, hb⟩; obtain ⟨A1, c1, hv1, hc1, hC1⟩ := Kd.R_reads hR; subst hv1; have HC1 := Aside0.mk (And.intro hC1 hc1); have HB1 := Aside0.mk hb; clear hR hC1 hc1 hb))
          | (go_at_call 18; go_loud (refine (althinglaw15_rows.calls_ A1 c1 (rowsB l) _ HC1.out.1 HC1.out.2 HRB.out HRN.out (by rw [HRL.out]; have := HLN.out; omega)).mono ?_; rintro e w2 ⟨v2, rfl, hS, hb⟩; rw [HRL.out] at hS; obtain ⟨A2, c2, hv2, _, hC2⟩ := Kd.S_reads hS; subst hv2; have HC2 := Aside0.mk hC2; have HB2 := Aside0.mk (HB1.out.trans (hb.mono HB1.out.size)); have HC3 := Aside0.mk (Kd.C_below HC.out HB2.out); clear hS hC2 hb)))
        obtain ⟨n, hn⟩ : ∃ n, n = l.length := ⟨_, rfl⟩
        have hca := HC3.out
        have hcb := HC2.out
        rw [← hn] at hca hcb ⊢
        have HCA := Aside0.mk hca
        have HCB := Aside0.mk hcb
        have HNN : Aside0 (n ≤ 3000) := ⟨by have := HLN.out; omega⟩
        clear hca hcb hn
        go_loopw [7] (fun i wr => ∃ x : Int, i = .int .i64 x ∧ (0 ≤ x ∧ x ≤ n) ∧ Aside0 (Below w2.heap.size w2 wr)) (fun i _ => n - (intOf i).toNat)
        case atStart => exact ⟨0, rfl, ⟨by omega, by omega⟩, ⟨Below.refl _ _⟩⟩
        case round =>
          obtain ⟨x, rfl, ⟨hx0, hx1⟩, HBr⟩ := hrel
          by_cases hx : x < n
          · obtain ⟨ad1, Ai, ci, rfl, q1, hCi⟩ := at_row (Kd.C_below HCA.out HBr.out) x hx0 hx
            obtain ⟨ad2, Aj, cj, rfl, q2, hCj⟩ := at_row (Kd.C_below HCB.out HBr.out) x hx0 hx
            generalize l.getD x.toNat [] = p at q1 q2 hCi hCj
            obtain ⟨s, hs⟩ : ∃ s, s = strOfNums p := ⟨_, rfl⟩
            have HG : Aside0 (∀ W, Below wr.heap.size wr W → W.cell? (ad1.add x.toNat) = some (.slice Ai p.length ci) ∧ W.cell? (ad2.add x.toNat) = some (.slice Aj p.length cj) ∧ (convert 50 9 (.slice Ai p.length ci)).run Tryz.prog W = .ok (.string s) W ∧ (convert 50 9 (.slice Aj p.length cj)).run Tryz.prog W = .ok (.string s) W) := ⟨fun W hW => by
              rw [hs]
              exact ⟨cell_below q1 hW, cell_below q2 hW, Kd.C_string Tryz.underlying50 Tryz.underlying5 Tryz.underlying9 (Kd.C_below hCi hW), Kd.C_string Tryz.underlying50 Tryz.underlying5 Tryz.underlying9 (Kd.C_below hCj hW)⟩⟩
            have e1 : IntKind.i64.wrap (x + 1) = x + 1 := IntWalk.i64_in _ (by have := HNN.out; omega)
            have e1' : wrap64 (x + 1) = x + 1 := wrapI (by omega) (by have := HNN.out; omega)
            clear hs q1 q2 hCi hCj
            go_upto_region 14 with (fail)
            go_region_held3 (fun w' => w'.cell? (ad1.add x.toNat) = some (.slice Ai p.length ci) ∧ w'.cell? (ad2.add x.toNat) = some (.slice Aj p.length cj) ∧ (convert 50 9 (.slice Ai p.length ci)).run Tryz.prog w' = .ok (.string s) w' ∧ (convert 50 9 (.slice Aj p.length cj)).run Tryz.prog w' = .ok (.string s) w') (exact HG.out _ (Below.drew (Below.refl _ _))) (fail)
            go_wp2
            exact ⟨⟨x + 1, rfl, ⟨by omega, by omega⟩, ⟨HBr.out.drew⟩⟩, by simp [intOf]; omega⟩
          · have e3 : x = n := by omega
            subst e3
            go_wp2_with (go_at_call 20; go_loud (refine (known15_calls _).mono ?_; rintro e w8 ⟨rfl, hb⟩; have HB8 := Aside0.mk ((HB2.out.trans (HBr.out.mono HB2.out.size)).trans (hb.mono (HB2.out.trans (HBr.out.mono HB2.out.size)).size)); clear hb))
            go_ret
            exact ⟨rfl, HB8.out⟩
set_option maxRecDepth 100000 in
theorem walks : WalksUpto 6 Tryz.f6 := by
  intro H enc W base args ds ps hval hA _ _ _ hbk
  rw [Tryz.params6] at hA hval
  obtain ⟨v0, d0, rfl, rfl, h0⟩ := trodAll_one hA
  obtain ⟨A0, len0, cap0, l0, rfl, hC0, hl0, hb0, hs0⟩ := Go.Proofs.YtockdfnnhkhlkaaGreatDoor.ArgBytes.open_rows (hval 0 51 v0 rfl rfl) h0
  subst hl0
  have hs : rowsSize l0 ≤ 1048576 := by
    have h1 := bulk_part (d := d0) (l := [d0]) (by simp)
    have h2 : rowsSize l0 ≤ Rows.uptoBulk d0 := hs0
    omega
  exact walk A0 cap0 l0 W hC0.1 hC0.2 hb0 hs
set_option maxRecDepth 100000 in
theorem rowed (os : Os) (started : os.Started) (H : Type) (enc : TypeId × Value → H) (F : Stop.Interp) :
    ReturnsInHanded {} Tryz.checked os 6 .any (fun w args => ((Rows.OpenSpec.upto Rows.scriptMakesSpec).pre enc Tryz.prog Tryz.f6 [] false w args ∧ laidMetH Tryz.prog laidL w) ∧ sizedMet enc Tryz.prog Tryz.f6 (Rows.OpenSpec.upto Rows.scriptMakesSpec) false w args) (((Rows.OpenSpec.upto Rows.scriptMakesSpec).at F).post enc Tryz.prog Tryz.f6 false true false false) :=
  liftedDU (s := Rows.scriptMakesSpec) Tryz.func6 (by kernel_rfl) (by kernel_rfl) (by kernel_rfl) (by kernel_rfl) rfl
    (fun H ds h => by
      have h' : ds.length = 1 := h
      match ds, h' with
      | [d1], _ => rfl)
    os started H enc F
    (witness_laid (enc := enc) (C := Tryz.checked) (os := os) (s := (Rows.OpenSpec.upto Rows.scriptMakesSpec)) (k := Rows.uptoSmall) (X := fun w => laidMetH Tryz.prog laidL w) rfl false (World.laidAll Tryz.prog os laidL) #[.slice none 0 0] 8 (World.laidAll_os _ _ _)
      (World.shaped_of_ZipB (by kernel_rfl) (by kernel_rfl)) (by kernel_rfl) (x := ([.nil], [], [])) (by kernel_rfl) rfl (by kernel_rfl) (by kernel_rfl)
      (by rw [MakeChecks.laidMetH_plain _ _ _ (by kernel_rfl)]; exact laidMet_laidAll _ (by kernel_rfl) (by kernel_rfl))) walks
set_option maxRecDepth 100000 in
theorem fact0 : (Rows.scriptMakesUptoRow.inPlace == Tryz.prog.inPlace 6) = true := by kernel_rfl
set_option maxRecDepth 100000 in
theorem fact1 : (Rows.scriptMakesUptoRow.unfollowed == Tryz.prog.unfollowed 6) = true := by kernel_rfl
set_option maxRecDepth 100000 in
theorem fact2 : (Rows.scriptMakesUptoRow.recurses == Tryz.prog.recurses 6) = true := by kernel_rfl
set_option maxRecDepth 100000 in
theorem fact3 : (Rows.scriptMakesUptoRow.named == Tryz.prog.varsNamed 6) = true := by kernel_rfl
set_option maxRecDepth 100000 in
theorem closed : joinedFacts Tryz.prog 6 Tryz.f6 (Rows.OpenSpec.upto Rows.scriptMakesSpec).bare Rows.scriptMakesUptoRow = true := by
  unfold joinedFacts
  rw [fact0, fact1, fact2, fact3]
  kernel_rfl
theorem over : Rows.scriptMakesUptoRow.holds Tryz.pinned (Rows.OpenSpec.upto Rows.scriptMakesSpec) :=
  OpenClaim.holds_of_cond 6 Tryz.f6 rfl rfl rfl rfl rfl rfl rfl ⟨rfl, rfl, rfl, rfl, rfl⟩ rfl rfl rfl rfl rfl (by kernel_rfl) Tryz.func6 closed
    (of_decide_eq_true (by kernel_rfl)) (by unfold Func.isWrapper; first | (rw [if_pos (by decide +kernel)]; kernel_rfl) | (rw [if_neg (by decide +kernel)]; exact ⟨rfl, rfl⟩))
    (fun os started H enc _ F => rowed os started H enc F)
theorem card : Rows.ScriptMakesUptoCardSaid :=
  Claim7.holds_tied_plain_at .later [] [.listed, .data] true (true, "ca017903dae1be76a6120c8c46aca48e3904b56abb20938806a391cecf5c85d9") false over (fun _ h => by cases h) (by kernel_rfl) (fun _ h => by cases h) scriptMakesUpto_row_tie rfl ⟨rfl, rfl⟩ (by kernel_rfl) rfl
    (fun f fn hf hfn => by
      obtain rfl : f = 6 := Option.some.inj ((show Tryz.prog.funcNamed "althing/althinglaw15.ScriptMakes" = some 6 by kernel_rfl).symm.trans hf) |>.symm
      obtain rfl : fn = Tryz.f6 := (Option.some.inj (Tryz.func6.symm.trans hfn)).symm
      exact ⟨by kernel_rfl, fun j t ht => by
        have hm : t ∈ Tryz.f6.params.toList := by simpa using Array.mem_of_getElem? ht
        have hall : (Tryz.f6.params.toList.all fun u => !Tryz.prog.wantsStandIn u) = true := by kernel_rfl
        exact (show Tryz.prog.wantsStandIn t = false by simpa using List.all_eq_true.1 hall t hm)⟩)
    (by kernel_rfl)
end Go.Proofs.YtockdfnnhkhlkaaGreatDoor.LawScriptMakes
namespace Go.Proofs.YtockdfnnhkhlkaaGreatDoor
/-- The card of the second form, under a short name, for the claim. -/
theorem scriptMakes_holds : Rows.ScriptMakesUptoCardSaid := LawScriptMakes.card
end Go.Proofs.YtockdfnnhkhlkaaGreatDoor
