/- ScriptBlocks: empty rows are blocks, one each, and nothing else. For every number. -/
import Derived.Test.YtockdfnnhkhlkaaGreatDoorBlZKnown15
import Derived.Test.YtockdfnnhkhlkaaGreatDoorBlFrameZ
import Derived.Deep.Slices
import Derived.Deep.Fields
import Derived.ChangeSame
import Derived.Lib.SmallJoins
namespace Go.Proofs.YtockdfnnhkhlkaaGreatDoor.LawScriptBlocks
open Go.ChangeShapes Go.WideShapes Go.ChangeAt Go.RowKit Go.Proofs.YtockdfnnhkhlkaaGreatDoor.G Go.Proofs.YtockdfnnhkhlkaaGreatDoor.Frame Go.Proofs.YtockdfnnhkhlkaaGreatDoorW.PrintWords Go.Proofs.YtockdfnnhkhlkaaGreatDoorW.PrintLast Go.Proofs.YtockdfnnhkhlkaaGreatDoorW.PrintMore
set_option linter.unusedVariables false
set_option linter.unusedSimpArgs false

theorem at_resA {w : World} {A : Option Addr} {n : Nat} {xs : List Unit} (h : KRes.C w A n xs) (i : Int) (h0 : 0 ≤ i) (h1 : i < n) : ∃ ad, A = some ad ∧ w.cell? (ad.add (i.toNat * 2)) = some (.int .i64 0) ∧ w.cell? ⟨(ad.add (i.toNat * 2)).block, (ad.add (i.toNat * 2)).off + 1, none⟩ = some (.slice none 0 0) := by
  obtain ⟨ad, c, e, _, hK, hc0⟩ := Kd.C_get h () i h0 h1
  have hc : ∀ j u, c[j]? = some u → w.cell? (ad.add (i.toNat * 2 + j)) = some u := hc0
  have hK' : c = [.int .i64 0, .slice none 0 0] := hK
  subst hK'
  exact ⟨ad, e, hc 0 _ rfl, by rw [← add_field _ _ 1 (by omega)]; exact hc 1 _ rfl⟩
theorem sum_thousand : sumA (accF thousandL 10) = 10000 := by decide
theorem each_thousand : ∀ x ∈ accF thousandL 10, 0 ≤ x.1 ∧ x.1 ≤ 1073741824 ∧ 0 ≤ x.2 ∧ x.2 ≤ 1073741824 := by decide

set_option maxHeartbeats 2000000 in
theorem walk0 (a : Int) (h : a < 0 ∨ 200 < a) (w : World) : Calls Tryz.prog 7 #[.int .i64 a] w fun e w' => e = .returned (.bool true) ∧ Below w.heap.size w w' := by
  go_enter Tryz.func7, Tryz.ntmps7
  by_cases h1 : a < 0
  · go_wp2
    go_ret
    exact ⟨rfl, Below.refl _ _⟩
  · have h2 : 200 < a := by omega
    go_wp2
    go_ret
    exact ⟨rfl, Below.refl _ _⟩
set_option maxRecDepth 100000 in
set_option maxHeartbeats 8000000 in
theorem walk (n : Nat) (hn : n ≤ 200) (w : World) : Calls Tryz.prog 7 #[.int .i64 (n : Int)] w fun e w' => e = .returned (.bool true) ∧ Below w.heap.size w w' := by
  have h1 : ¬ (n : Int) < 0 := by omega
  have h2 : ¬ 200 < (n : Int) := by omega
  have hmk := print_make (P := Tryz.prog) 50 5 .u8 1 Tryz.underlying50 info5 (by decide) n (by omega)
  have HN' := Aside0.mk hn
  clear hn
  go_enter Tryz.func7, Tryz.ntmps7
  go_upto_region 6 with (first
    | (go_at_call 24; go_loud ((with_reducible refine (althinglaw15_thousand.calls 20 thousandL _ thousand15).mono ?_); rintro e w1 ⟨v1, rfl, hR, hb⟩; obtain ⟨A, ca, hv, hca, hC⟩ := Kd.R_reads hR; subst hv; have HC := Aside0.mk hC; have HCA := Aside0.mk hca; have B1 := Aside0.mk hb; clear hR hC hca hb))
    | (go_at_call 25; go_loud ((with_reducible refine (althinglaw15_tracks.calls [trackA, trackB] _ rfl).mono ?_); rintro e w2 ⟨v2, rfl, hR, hb⟩; obtain ⟨tb, c2, hv, hc2, hT, hTA, hTB⟩ := two_of_R hR; subst hv; obtain ⟨_, _, hC2⟩ := Kd.R_reads' hR; have HT := Aside0.mk (And.intro hTA (And.intro hTB hC2)); have HC1 := Aside0.mk (Kd.C_below HC.out hb); have B2 := Aside0.mk (B1.out.trans (hb.mono B1.out.size)); clear hR hb hc2 hT hTA hTB hC2))
    | (go_at_call 23; go_loud (refine (chainNew_calls A ca tb c2 _ HC1.out HCA.out HT.out.1 HT.out.2.1 HT.out.2.2).mono ?_; rintro e w3 ⟨c, L, q, V, r, p, a, g, T, c3, v, rfl, hN, hb⟩; have HN := Aside0.mk hN; have B3 := Aside0.mk (B2.out.trans (hb.mono B2.out.size)); have HS2 := Aside0.mk B2.out.size; clear hN hb)))
  have HN3 := Aside0.mk (HN.out.below (below_alloc (Below.refl _ _) (.cells (madeCells #[.int .u8 0] n) 5)))
  have B4 := Aside0.mk (below_alloc B3.out (.cells (madeCells #[.int .u8 0] n) 5))
  have HRUN : Aside0 (Calls Tryz.prog 26 #[.pointer (some ⟨c, 0, none⟩), .slice (some ⟨w3.heap.size, 0, none⟩) n n] (w3.alloc (.cells (madeCells #[.int .u8 0] n) 5)) fun e w' => ∃ v5, e = .returned v5 ∧ (∃ ok, KRes.R 70 w' 0 ok v5 (List.replicate n ())) ∧ NewChain w2.heap.size w' c (n : Int) L q V r p a g T c3 v ∧ (w3.alloc (.cells (madeCells #[.int .u8 0] n) 5)).grownBy w' (some c)) := ⟨by
    have hz := zeros_C w3 n (by have := HN'.out; omega)
    have := run_calls w2.heap.size c 0 L q V r p a g T c3 v (some ⟨w3.heap.size, 0, none⟩) (List.replicate n 0) n (w3.alloc (.cells (madeCells #[.int .u8 0] n) 5)) HN3.out (by decide) (by decide) (by rw [List.length_replicate]; exact hz) (by rw [List.length_replicate]) (by rw [List.length_replicate]; have := HN'.out; omega) (by rw [List.length_replicate]; exact Nat.le_refl _) (fun ad e _ => by
      have := Option.some.inj e
      subst this
      have h3 := HN.out.chain.chain.lt (by simp)
      intro e
      simp only at e
      omega)
    rw [List.length_replicate] at this
    refine this.mono ?_
    rintro e w' ⟨v5, he, hR, hN5, hg⟩
    rw [Int.zero_add] at hN5
    exact ⟨v5, he, ⟨_, Kd.R_lower hR (Nat.zero_le _)⟩, hN5, hg⟩⟩
  go_upto_region 7 with (go_at_call 26; go_loud (refine HRUN.out.mono ?_; rintro e w5 ⟨v5, rfl, ⟨ok, hR5⟩, hN5, hg5⟩; obtain ⟨A5, c5, hv5, _, hC5⟩ := Kd.R_reads hR5; rw [List.length_replicate] at hv5 hC5; subst hv5; have HC5 := Aside0.mk hC5; have HN5 := Aside0.mk hN5; have HB5 := Aside0.mk (below_more B4.out (Nat.le_refl _) hg5 (fun k e => by have := Option.some.inj e; subst this; exact Nat.le_trans HS2.out HN.out.above)); clear hR5 hN5 hg5 hC5))
  clear hmk
  go_upto_region 8 with (fail)
  go_loopw [6] (fun i wr => ∃ x : Int, i = .int .i64 x ∧ (0 ≤ x ∧ x ≤ n) ∧ wr = w5) (fun i _ => n - (intOf i).toNat)
  case atStart => exact ⟨0, rfl, ⟨by omega, by omega⟩, rfl⟩
  case round =>
    obtain ⟨x, rfl, ⟨hx0, hx1⟩, hw_⟩ := hrel
    subst hw_
    by_cases hx : x < n
    · obtain ⟨ad, rfl, c0, c1⟩ := at_resA HC5.out x hx0 hx
      have e1 : IntKind.i64.wrap (x + 1) = x + 1 := IntWalk.i64_in _ (by have := HN'.out; omega)
      have e1' : wrap64 (x + 1) = x + 1 := wrapI (by omega) (by have := HN'.out; omega)
      go_wp2
      exact ⟨⟨x + 1, rfl, ⟨by omega, by omega⟩, trivial⟩, by simp [intOf]; omega⟩
    · have e3 : x = n := by omega
      subst e3
      go_wp2_with (first
        | (go_at_call 11; go_loud (refine (now_calls c (n : Int) _ (HN5.out.chain.chain.cell rfl)).mono ?_; rintro e w6 ⟨rfl, rfl⟩))
        | (go_at_call 12; go_loud (refine (chainLedger_calls c L _ (HN5.out.chain.chain.cell rfl)).mono ?_; rintro e w6 ⟨rfl, rfl⟩))
        | (go_at_call 27; go_loud (refine (issued_calls _ L q v (accF thousandL 10) _ HN5.out.ledger (by decide) each_thousand).mono ?_; rintro e w7 ⟨he, hb⟩; rw [sum_thousand] at he; subst he; have HB7 := Aside0.mk (HB5.out.trans (hb.mono HB5.out.size)); clear hb))
        | (go_at_call 20; go_loud (refine (known15_calls _).mono ?_; rintro e w8 ⟨rfl, hb⟩; have HB8 := Aside0.mk (HB7.out.trans (hb.mono HB7.out.size)); clear hb)))
      go_ret
      exact ⟨rfl, HB8.out⟩
set_option maxRecDepth 100000 in
theorem walks : WalksD 7 Tryz.f7 := by
  intro H enc W base args ds ps hval hA _ _ _
  rw [Tryz.params7] at hA hval
  obtain ⟨v0, d0, rfl, rfl, h0⟩ := trodAll_one hA
  obtain ⟨a0, rfl, rfl, rfl, _⟩ := open_int Tryz.underlying3 (hval 0 3 v0 rfl rfl) h0
  by_cases h : a0 < 0 ∨ 200 < a0
  · exact walk0 a0 h W
  · obtain ⟨n, rfl⟩ := Int.eq_ofNat_of_zero_le (by omega : 0 ≤ a0)
    exact walk n (by omega) W
set_option maxRecDepth 100000 in
theorem rowed (os : Os) (started : os.Started) (H : Type) (enc : TypeId × Value → H) :
    ReturnsInHanded {} Tryz.checked os 7 .any (fun w args => (Rows.scriptBlocksSpec.pre enc Tryz.prog Tryz.f7 [] false w args ∧ laidMetH Tryz.prog laidL w) ∧ sizedMet enc Tryz.prog Tryz.f7 (OpenSpec.ofChange Rows.scriptBlocksSpec) false w args) (Rows.scriptBlocksSpec.post enc Tryz.prog Tryz.f7 false true false false) :=
  liftedD (s := Rows.scriptBlocksSpec) Tryz.func7 (by kernel_rfl) (by kernel_rfl) (by kernel_rfl) (by kernel_rfl) rfl
    (fun H ds h => by
      have h' : ds.length = 1 := h
      match ds, h' with
      | [d1], _ => rfl)
    os started H enc
    (ChangeSpec.witness_shaped (enc := enc) (C := Tryz.checked) (os := os) (X := fun w _ => laidMetH Tryz.prog laidL w) false (World.laidAll Tryz.prog os laidL) #[.int .i64 0] 8 (World.laidAll_os _ _ _)
      (World.shaped_of_ZipB (by kernel_rfl) (by kernel_rfl)) (by kernel_rfl) (by kernel_rfl) (by kernel_rfl)
      (by rw [MakeChecks.laidMetH_plain _ _ _ (by kernel_rfl)]; exact laidMet_laidAll _ (by kernel_rfl) (by kernel_rfl))) walks
set_option maxRecDepth 100000 in
theorem fact0 : (Rows.scriptBlocksRow.inPlace == Tryz.prog.inPlace 7) = true := by kernel_rfl
set_option maxRecDepth 100000 in
theorem fact1 : (Rows.scriptBlocksRow.unfollowed == Tryz.prog.unfollowed 7) = true := by kernel_rfl
set_option maxRecDepth 100000 in
theorem fact2 : (Rows.scriptBlocksRow.recurses == Tryz.prog.recurses 7) = true := by kernel_rfl
set_option maxRecDepth 100000 in
theorem fact3 : (Rows.scriptBlocksRow.named == Tryz.prog.varsNamed 7) = true := by kernel_rfl
set_option maxRecDepth 100000 in
theorem closed : joinedFacts Tryz.prog 7 Tryz.f7 Rows.scriptBlocksSpec Rows.scriptBlocksRow = true := by
  unfold joinedFacts
  rw [fact0, fact1, fact2, fact3]
  kernel_rfl
theorem over : Rows.scriptBlocksRow.holds Tryz.pinned (OpenSpec.ofChange Rows.scriptBlocksSpec) :=
  OpenClaim.holds_of_wide 7 Tryz.f7 rfl rfl rfl rfl rfl rfl rfl ⟨rfl, rfl, rfl, rfl, rfl⟩ rfl rfl rfl rfl rfl (by kernel_rfl) Tryz.func7 closed
    (of_decide_eq_true (by kernel_rfl)) (by unfold Func.isWrapper; first | (rw [if_pos (by decide +kernel)]; kernel_rfl) | (rw [if_neg (by decide +kernel)]; exact ⟨rfl, rfl⟩))
    (fun os started H enc _ => rowed os started H enc)
theorem card : Rows.ScriptBlocksCardSaid :=
  Claim7.holds_tied_plain_at .later [] [.listed, .data] true (true, "ca017903dae1be76a6120c8c46aca48e3904b56abb20938806a391cecf5c85d9") false over (fun _ h => by cases h) (by kernel_rfl) (fun _ h => by cases h) scriptBlocks_row_tie rfl ⟨rfl, rfl⟩ (by kernel_rfl) rfl
    (fun f fn hf hfn => by
      obtain rfl : f = 7 := Option.some.inj ((show Tryz.prog.funcNamed "althing/althinglaw15.ScriptBlocks" = some 7 by kernel_rfl).symm.trans hf) |>.symm
      obtain rfl : fn = Tryz.f7 := (Option.some.inj (Tryz.func7.symm.trans hfn)).symm
      exact ⟨by kernel_rfl, fun j t ht => by
        have hm : t ∈ Tryz.f7.params.toList := by simpa using Array.mem_of_getElem? ht
        have hall : (Tryz.f7.params.toList.all fun u => !Tryz.prog.wantsStandIn u) = true := by kernel_rfl
        exact (show Tryz.prog.wantsStandIn t = false by simpa using List.all_eq_true.1 hall t hm)⟩)
    (by kernel_rfl)
end Go.Proofs.YtockdfnnhkhlkaaGreatDoor.LawScriptBlocks
namespace Go.Proofs.YtockdfnnhkhlkaaGreatDoor
/-- The row's card, under a short name, for the claim. -/
theorem scriptBlocks_holds : Rows.ScriptBlocksCardSaid := LawScriptBlocks.card
end Go.Proofs.YtockdfnnhkhlkaaGreatDoor
