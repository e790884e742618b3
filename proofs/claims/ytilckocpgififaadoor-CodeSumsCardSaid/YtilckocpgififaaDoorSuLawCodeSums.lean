/- CodeSums: a call's digest is that of its bytes. For every call. -/
import Derived.Test.YtilckocpgififaaDoorSuHSameCall
import Derived.Test.YtilckocpgififaaDoorSuHKnown
import Derived.Test.YtilckocpgififaaDoorSuArgCall
import Derived.Test.YtilckocpgififaaDoorSuHCSum
namespace Go.Proofs.YtilckocpgififaaDoor.LawCodeSums
set_option linter.unusedSimpArgs false
set_option linter.unusedVariables false
open Go.ChangeShapes Go.WideShapes Go.ChangeAt Go.RowKit Go.Proofs.YtilckocpgififaaDoor.G Go.Proofs.YtilckocpgififaaDoor.PNum Go.Proofs.YtilckocpgififaaDoor.Frame Go.Proofs.YtilckocpgififaaDoorW.PrintWords Go.Proofs.YtilckocpgififaaDoorW.PrintLast Go.Proofs.YtilckocpgififaaDoorW.PrintMore
set_option maxRecDepth 100000 in
set_option maxHeartbeats 16000000 in
theorem walk (y : S24) (A : Option Addr) (n : Nat) (W : World) (hC : Kd.C k24 W A y.f3.length y.f3) (hc : y.f3.length ≤ n) (hT : Spaces W) :
    Calls Tryd.prog 3 #[.agg (callL y A n).toArray] W fun e w' => e = .returned (.bool true) ∧ Below W.heap.size W w' := by
  obtain ⟨G, hG⟩ := fits_kids W y A hC
  obtain ⟨q, r, hs⟩ := size_some G y hG
  obtain ⟨L, hL⟩ : ∃ L, L = callL y A n := ⟨_, rfl⟩
  obtain ⟨p, hp⟩ : ∃ p, p = bytesC y := ⟨_, rfl⟩
  have hpB := bytesC_is y
  rw [← hp] at hpB
  obtain ⟨X, hX⟩ : ∃ X, X = sumV p := ⟨_, rfl⟩
  have HSA : Aside0 (∀ w, Below W.heap.size W w → Calls Tryd.prog 5 #[.agg L.toArray] w fun e w' => e = .returned (.int .i64 r) ∧ Below w.heap.size w w') := ⟨fun w hb => by rw [hL]; exact althinglaw7_size.calls q _ _ _ A n _ _ w (Kd.C_below hC hb) hc hs⟩
  have HE : Aside0 (∀ w', Below W.heap.size W w' → Calls Tryd.prog 6 #[.agg L.toArray] w' fun e w'' => ∃ v0 : Value, e = .returned (.tuple #[v0, .int .i64 (errC y)]) ∧ Kd.R (Kd.int .u8) 5 w'' w'.heap.size (fun _ => True) v0 p ∧ Below w'.heap.size w' w'') := ⟨fun w' hb => by
    rw [hL, hp]; exact code_EncodeCall.calls 50 _ _ _ A n _ _ _ w' (Kd.C_below hC hb) hc (enc_own y)⟩
  have HSU : Aside0 (∀ w', Below W.heap.size W w' → Calls Tryd.prog 7 #[.agg L.toArray] w' fun e w'' => e = .returned (.agg X.toArray) ∧ Below w'.heap.size w' w'') := ⟨fun w' hb => by
    rw [hL, hX, hp]; exact codeSum_calls y A n w' (Kd.C_below hC hb) hc (hT.below hb)⟩
  have HRS : Aside0 (∀ (A3 : Option Addr) (c3 : Nat) (w : World), Kd.C (Kd.int .u8) w A3 p.length p → p.length ≤ c3 → Calls Tryd.prog 8 #[.slice A3 p.length c3] w fun e w' => e = .returned (.agg X.toArray) ∧ Below w.heap.size w w') := ⟨fun A3 c3 w h1 h2 => by
    rw [hX]; exact ref_Sum.calls A3 c3 p w h1 h2 (by have := hpB.2; omega) hpB.1⟩
  have heq : ∀ w, (binOp .eql 31 (.agg X.toArray) (.agg X.toArray)).run Tryd.prog w = .ok (.bool true) w := fun w => by rw [hX]; exact eq_hash _ (keyedL_bytes _ _) (keyedL_length _ _) w
  have HLl : Aside0 ((Tryd.prog.info? 24).map (·.size) = some L.length) := ⟨by rw [hL]; exact info_call⟩
  rw [← hL]
  clear hL hp hpB hX hC hc hT hs hG
  by_cases h1 : r ≥ 300
  · have d1 : decide (r ≥ 300) = true := decide_eq_true h1
    go_enter Tryd.func3, Tryd.ntmps3
    go_upto_region 1 with ((with_reducible refine gate_dst (N := 1) rfl ?_); refine box_event ?hg (N := 1) ?hd (cs := L.toArray) (t := 24) ?hr ?_; (case hd => rfl); (case hg => rfl); (case hr => first | (go_simp; done) | (go_simp; rfl)); intro g1 hg_ w1 hbox_ hb_; have hR1 := rangeAt_box hbox_; have B1 := Aside0.mk hb_; have Z1 := Aside0.mk (blk_lt hbox_); clear hg_ hbox_ hb_)
    go_wp2_with (first
      | ((with_reducible refine gate_dst (N := 5) rfl ?_); refine wpList_load_mid rfl 24 _ rfl g1 0 rfl L _ hR1 Tryd.underlying24 rfl HLl.out ?_)
      | (go_at_call 5; (with_reducible refine (HSA.out _ B1.out).mono ?_); rintro e w2 ⟨rfl, hb_⟩; have B2 := Aside0.mk (below_step B1.out hb_); clear hb_))
    go_ret
    exact ⟨rfl, B2.out⟩
  have d1 : decide (r ≥ 300) = false := decide_eq_false h1
  go_enter Tryd.func3, Tryd.ntmps3
  go_upto_region 1 with ((with_reducible refine gate_dst (N := 1) rfl ?_); refine box_event ?hg (N := 1) ?hd (cs := L.toArray) (t := 24) ?hr ?_; (case hd => rfl); (case hg => rfl); (case hr => first | (go_simp; done) | (go_simp; rfl)); intro g1 hg_ w1 hbox_ hb_; have hR1 := rangeAt_box hbox_; have hZ1 := blk_lt hbox_; have B1 := Aside0.mk hb_; clear hg_ hbox_ hb_)
  go_wp2_with (first
    | ((with_reducible refine gate_dst (N := 5) rfl ?_); refine wpList_load_mid rfl 24 _ rfl g1 0 rfl L _ hR1 Tryd.underlying24 rfl HLl.out ?_)
    | ((with_reducible refine gate_dst (N := 9) rfl ?_); refine wpList_load_mid rfl 24 _ rfl g1 0 rfl L _ hR1 Tryd.underlying24 rfl HLl.out ?_)
    | ((with_reducible refine gate_dst (N := 13) rfl ?_); refine wpList_load_mid rfl 24 _ rfl g1 0 rfl L _ hR1 Tryd.underlying24 rfl HLl.out ?_)
    | (go_at_call 5; (with_reducible refine (HSA.out _ B1.out).mono ?_); rintro e w2 ⟨rfl, hb_⟩; have B2 := Aside0.mk (below_step B1.out hb_); replace hR1 := rangeAt_below hR1 hb_ hZ1; replace hZ1 := Nat.lt_of_lt_of_le hZ1 hb_.size; clear hb_)
    | (go_at_call 6; go_loud ((with_reducible refine (HE.out _ B2.out).mono ?_); rintro e w3 ⟨v3, rfl, hr_, hb_⟩; obtain ⟨A3, c3, hv_, hc_, hC_⟩ := Kd.R_reads hr_; subst hv_; have Hc3 := Aside0.mk hc_; have HC3 := Aside0.mk hC_; have B3 := Aside0.mk (below_step B2.out hb_); replace hR1 := rangeAt_below hR1 hb_ hZ1; replace hZ1 := Nat.lt_of_lt_of_le hZ1 hb_.size; clear hr_ hc_ hC_ hb_))
    | (go_at_call 7; go_loud ((with_reducible refine (HSU.out _ B3.out).mono ?_); rintro e w4 ⟨rfl, hb_⟩; have B4 := Aside0.mk (below_step B3.out hb_); have HC4 := Aside0.mk (Kd.C_below HC3.out hb_); clear hb_))
    | (go_at_call 8; go_loud ((with_reducible refine (HRS.out _ _ _ HC4.out Hc3.out).mono ?_); rintro e w5 ⟨rfl, hb_⟩; have B5 := Aside0.mk (below_step B4.out hb_); clear hb_))
    | (go_at_call 9; (with_reducible refine (known_calls _).mono ?_); rintro e w6 ⟨rfl, hb_⟩; have B6 := Aside0.mk (below_step B5.out hb_); clear hb_))
  go_ret
  exact ⟨rfl, B6.out⟩
set_option maxRecDepth 100000 in
theorem walks : WalksD 3 Tryd.f3 := by
  intro H enc W base args ds ps hT hval hA _ _ _
  rw [Tryd.params3] at hA hval
  obtain ⟨v0, d0, rfl, rfl, h0⟩ := trodAll_one hA
  obtain ⟨A0, c0, y, rfl, hy, hyc⟩ := ArgCall.open_call (hval 0 24 v0 rfl rfl) h0
  exact walk y A0 c0 W hy hyc hT
set_option maxRecDepth 100000 in
theorem rowed (os : Os) (started : os.Started) (H : Type) (enc : TypeId × Value → H) :
    ReturnsInHanded {} Tryd.checked os 3 .any (fun w args => (Rows.codeSumsSpec.pre enc Tryd.prog Tryd.f3 [] false w args ∧ laidMetH Tryd.prog laidL w) ∧ sizedMet enc Tryd.prog Tryd.f3 (OpenSpec.ofChange Rows.codeSumsSpec) false w args) (Rows.codeSumsSpec.post enc Tryd.prog Tryd.f3 false true false false) :=
  liftedD (s := Rows.codeSumsSpec) Tryd.func3 (by kernel_rfl) (by kernel_rfl) (by kernel_rfl) (by kernel_rfl) rfl
    (fun H ds h => by
      have h' : ds.length = 1 := h
      match ds, h' with
      | [d1], _ => rfl)
    os started H enc
    (ChangeSpec.witness_shaped (enc := enc) (C := Tryd.checked) (os := os) (X := fun w _ => laidMetH Tryd.prog laidL w) false (World.laidAll Tryd.prog os laidL) #[.agg #[.int .i64 0, .int .i64 0, .int .i64 0, .slice none 0 0]] 8 (World.laidAll_os _ _ _)
      (World.shaped_of_ZipB (by kernel_rfl) (by kernel_rfl)) (by kernel_rfl) (by kernel_rfl) (by kernel_rfl)
      (by rw [MakeChecks.laidMetH_plain _ _ _ (by kernel_rfl)]; exact laidMet_laidAll _ (by kernel_rfl) (by kernel_rfl))) walks
theorem over : Rows.codeSumsRow.holds Tryd.pinned (OpenSpec.ofChange Rows.codeSumsSpec) :=
  OpenClaim.holds_of_wide 3 Tryd.f3 rfl rfl rfl rfl rfl rfl rfl ⟨rfl, rfl, rfl, rfl, rfl⟩ rfl rfl rfl rfl rfl (by kernel_rfl) Tryd.func3 (by kernel_rfl)
    (of_decide_eq_true (by kernel_rfl)) (by unfold Func.isWrapper; first | (rw [if_pos (by decide +kernel)]; kernel_rfl) | (rw [if_neg (by decide +kernel)]; exact ⟨rfl, rfl⟩))
    (fun os started H enc _ => rowed os started H enc)
theorem card : Rows.CodeSumsCardSaid :=
  Claim7.holds_tied_plain_at .later [] [.listed, .data] true (true, "d0f712555510da5ebc838359b0fbfb6ab54e0f595d8fc0ae49970d8674c69419") false over (fun _ h => by cases h) (by kernel_rfl) (fun _ h => by cases h) codeSums_row_tie rfl ⟨rfl, rfl⟩ (by kernel_rfl) rfl
    (fun f fn hf hfn => by
      obtain rfl : f = 3 := Option.some.inj ((show Tryd.prog.funcNamed "althing/althinglaw7.CodeSums" = some 3 by kernel_rfl).symm.trans hf) |>.symm
      obtain rfl : fn = Tryd.f3 := (Option.some.inj (Tryd.func3.symm.trans hfn)).symm
      exact ⟨by kernel_rfl, fun j t ht => by
        have hm : t ∈ Tryd.f3.params.toList := by simpa using Array.mem_of_getElem? ht
        have hall : (Tryd.f3.params.toList.all fun u => !Tryd.prog.wantsStandIn u) = true := by kernel_rfl
        exact (show Tryd.prog.wantsStandIn t = false by simpa using List.all_eq_true.1 hall t hm)⟩)
    (by kernel_rfl)
end Go.Proofs.YtilckocpgififaaDoor.LawCodeSums
namespace Go.Proofs.YtilckocpgififaaDoor
/-- The row's card, under a short name, for the claim. -/
theorem codeSums_holds : Rows.CodeSumsCardSaid := LawCodeSums.card
end Go.Proofs.YtilckocpgififaaDoor
