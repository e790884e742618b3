/- A call's digest, the code's and the reference's: that of its bytes. -/
import Derived.Test.YtilckocpgififaaDoorSuRBlock
import Derived.Test.YtilckocpgififaaDoorSuHTaken0
import Derived.Test.YtilckocpgififaaDoorSuGx4
import Derived.Test.YtilckocpgififaaDoorSuBMix
import Derived.Deep.RegionHeld3
import Derived.OneCell
import Derived.Laws.Tables
import Derived.Deep.MidRow
import Derived.Test.YtilckocpgififaaDoorSuHSeq
namespace Go.Proofs.YtilckocpgififaaDoor.G
open Go.RowKit Go.Shelf Go.Proofs.YtilckocpgififaaDoorW.PrintWords Go.Proofs.YtilckocpgififaaDoorW.PrintLast Go.Proofs.YtilckocpgififaaDoorW.PrintMore Go.Proofs.YtilckocpgififaaDoor.PNum
set_option linter.unusedVariables false
set_option linter.unusedSimpArgs false
def callL (c : S24) (A : Option Addr) (n : Nat) : List Value := [.int .i64 c.f0, .int .i64 c.f1, .int .i64 c.f2, .slice A c.f3.length n]
def bytesC (c : S24) : List Int := if okT 3 c = true then encC 3 c else []
def errC (c : S24) : Int := if okT 3 c = true then 0 else 1
def sumV (l : List Int) : List Value := (keyedL [] l).map (Value.int .u8)
theorem bytesC_is (c : S24) : IsBytes (bytesC c) ∧ (bytesC c).length ≤ 3816 := by
  unfold bytesC
  by_cases h : okT 3 c = true
  · rw [if_pos h]; exact ⟨encC_bytes 3 c, Nat.le_trans (encC_most 3 c h) (mostC_small (by decide))⟩
  · rw [if_neg h]; exact ⟨(fun c hc => by cases hc), Nat.zero_le _⟩
theorem enc_own (c : S24) : code_EncodeCall.f 50 c.f0 c.f1 c.f2 c.f3 = some (bytesC c, errC c) := by
  rw [encode_tells c 50 (by decide)]
  unfold bytesC errC
  by_cases h : okT 3 c = true
  · rw [if_pos h, if_pos h, if_pos h]
  · rw [if_neg h, if_neg h, if_neg h]
theorem sumV_one (l : List Int) : ∀ v ∈ sumV l, v.oneCell' = true := one_of_map _
theorem sumV_length (l : List Int) : (sumV l).length = 32 := by unfold sumV; rw [List.length_map, keyedL_length]
set_option maxRecDepth 100000 in
set_option maxHeartbeats 8000000 in
theorem codeSum_calls (c : S24) (A : Option Addr) (n : Nat) (w : World) (hC : Kd.C k24 w A c.f3.length c.f3) (hc : c.f3.length ≤ n) (hT : Spaces w) :
    Calls Tryd.prog 7 #[.agg (callL c A n).toArray] w fun e w' => e = .returned (.agg (sumV (bytesC c)).toArray) ∧ Below w.heap.size w w' := by
  obtain ⟨L, hL⟩ : ∃ L, L = callL c A n := ⟨_, rfl⟩
  obtain ⟨p, hp⟩ : ∃ p, p = bytesC c := ⟨_, rfl⟩
  have hpB := bytesC_is c
  rw [← hp] at hpB
  have HE : Aside0 (∀ w', Below w.heap.size w w' → Calls Tryd.prog 6 #[.agg L.toArray] w' fun e w'' => ∃ v0 : Value, e = .returned (.tuple #[v0, .int .i64 (errC c)]) ∧ Kd.R (Kd.int .u8) 5 w'' w'.heap.size (fun _ => True) v0 p ∧ Below w'.heap.size w' w'') := ⟨fun w' hb => by
    rw [hL, hp]; exact code_EncodeCall.calls 50 _ _ _ A n _ _ _ w' (Kd.C_below hC hb) hc (enc_own c)⟩
  obtain ⟨Z, hZ⟩ : ∃ Z, Z = zero32.map (Value.int .u8) := ⟨_, rfl⟩
  have HZl : Aside0 (Z.length = 32) := ⟨by rw [hZ]; rfl⟩
  have hal : ∀ w, (zeroValue 31).run Tryd.prog w = .ok (.agg Z.toArray) w := fun w => by rw [hZ]; exact zero_run info_a32 w
  obtain ⟨X, hX⟩ : ∃ X, X = sumV p := ⟨_, rfl⟩
  have HXl : Aside0 (X.length = 32) := ⟨by rw [hX]; exact sumV_length p⟩
  have HXo : Aside0 (∀ v ∈ X, v.oneCell' = true) := ⟨by rw [hX]; exact sumV_one p⟩
  have HLl : Aside0 ((Tryd.prog.info? 24).map (·.size) = some L.length) := ⟨by rw [hL]; exact info_call⟩
  have HX := Aside0.mk hX
  have HPB := Aside0.mk hpB
  have HT := Aside0.mk hT
  rw [← hp, ← hX, ← hL]
  clear hX hZ hL hp hpB hC hc hT
  go_enter Tryd.func7, Tryd.ntmps7
  go_upto_region 1 with (first
    | ((with_reducible refine gate_dst (N := 1) rfl ?_); refine box_event ?hg (N := 1) ?hd (cs := L.toArray) (t := 24) ?hr ?_; (case hd => rfl); (case hg => rfl); (case hr => first | (go_simp; done) | (go_simp; rfl)); intro g1 hg_ w1 hbox_ hb_; have L1 := Aside0.mk (rangeAt_box hbox_); have B1 := Aside0.mk hb_; have Z1 := Aside0.mk (blk_lt hbox_); clear hg_ hbox_ hb_)
    | ((with_reducible refine gate_dst (N := 2) rfl ?_); refine box_event ?hg (N := 2) ?hd (cs := Z.toArray) (t := 31) ?hr ?_; (case hd => rfl); (case hg => rfl); (case hr => first | (simp [execOp, Instr.alloc, hal, newVar, newRow, go_sem]; done) | (simp [execOp, Instr.alloc, hal, newVar, newRow, go_sem]; rfl)); intro g2 hg_ w2 hbox_ hb_; have G2 := Aside0.mk hg_; have BZ2 := Aside0.mk (there_box hbox_); have HB2 := Aside0.mk hb_; have LT2 := Aside0.mk (blk_lt hbox_); clear hg_ hbox_ hb_))
  have hR1 := rangeAt_below L1.out HB2.out Z1.out
  have HT2 := Aside0.mk (below_step B1.out HB2.out)
  go_wp2_with (first
    | ((with_reducible refine gate_dst (N := 6) rfl ?_); refine wpList_load_mid rfl 24 _ rfl g1 0 rfl L _ hR1 Tryd.underlying24 rfl HLl.out ?_)
    | (go_at_call 6; go_loud ((with_reducible refine (HE.out _ HT2.out).mono ?_); rintro e w3 ⟨v3, rfl, hr_, hb_⟩; obtain ⟨A3, c3, hv_, hc_, hC_⟩ := Kd.R_reads hr_; subst hv_; have Hc3 := Aside0.mk hc_; have HC3 := Aside0.mk hC_; have HB3 := Aside0.mk hb_; clear hr_ hc_ hC_ hb_))
    | ((with_reducible refine gate_dst (N := 11) rfl ?_); refine slice_event ?hg (N := 11) ?hd (cs := #[.slice A3 p.length c3]) (t := 26) (n := 1) (c := 1) ?hr ?_; (case hd => rfl); (case hg => rfl); (case hr => first | (go_simp; done) | (go_simp; rfl)); intro g4 hg_ w4 hbox_ hb_; have BX4 := Aside0.mk hbox_; have HB4 := Aside0.mk hb_; clear hg_ hbox_ hb_)
    | (go_at_call 19; go_loud (have hs_ := sum_one A3 c3 p w3 HC3.out Hc3.out (by have := HPB.out.2; omega) HPB.out.1 (HT.out.below (below_step HT2.out HB3.out)) w4 g4 HB4.out BX4.out; rw [show (keyedL [] p).map (Value.int .u8) = X from HX.out.symm] at hs_; (with_reducible refine hs_.mono ?_); clear hs_; rintro e w5 ⟨rfl, hb_⟩; have HB5 := Aside0.mk (below_step (below_step HB3.out HB4.out) hb_); have BZ5 := Aside0.mk (there_of_below BZ2.out (below_step (below_step HB3.out HB4.out) hb_) LT2.out); clear hb_))
    | ((with_reducible refine gate_store (t := 31) (p := 2) rfl ?_); refine wpList_store_mid rfl 31 _ _ rfl g2 0 X.toArray rfl rfl (by rw [List.size_toArray, HXl.out, ← HZl.out]; exact BZ5.out) (by rw [List.size_toArray, HXl.out]; exact size_of info_a32) (all_oneCell_toArray HXo.out) ?_))
  have BR := World.rangeAt_setCells_same w5 g2 0 X (by rw [HXl.out, ← HZl.out]; exact BZ5.out)
  have hres := run_loadVar_mid (P := Tryd.prog) (w5.setCells g2 0 X) g2 0 31 X _ BR Tryd.underlying31 rfl (by rw [HXl.out]; exact size_of info_a32)
  refine bodyPost_ret (v := .agg X.toArray) (results_cell rfl _ rfl hres) rfl ?_
  exact ⟨rfl, below_setCells g2 (by have := G2.out; have := B1.out.size; omega) X 0 w5 (below_step HT2.out HB5.out)⟩
end Go.Proofs.YtilckocpgififaaDoor.G
