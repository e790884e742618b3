/- CodeFields: what a Kind does not name may not be there. -/
import Derived.Test.YtilckocpgififaaFiFrame
import Derived.Test.YtilckocpgififaaFiHKnown
import Derived.Test.YtilckocpgififaaFiPExt
import Derived.Test.YtilckocpgififaaFiArgCall
import Derived.Test.YtilckocpgififaaFiGx4
namespace Go.Proofs.Ytilckocpgififaa.LawCodeFields
set_option linter.unusedSimpArgs false
set_option linter.unusedVariables false
open Go.Extern.Stop (cell)
open Go.ChangeShapes Go.WideShapes Go.ChangeAt Go.RowKit Go.Proofs.Ytilckocpgififaa.G Go.Proofs.Ytilckocpgififaa.PNum Go.Proofs.Ytilckocpgififaa.Frame Go.Proofs.YtilckocpgififaaW.PrintWords Go.Proofs.YtilckocpgififaaW.PrintLast Go.Proofs.YtilckocpgififaaW.PrintMore

def fieldsR.T : Bool × List (List Nat × List Nat) := (true, [([], []), ([0], [0]), ([], []), ([2, 1], [2]), ([1, 3], [1, 3]), ([4, 3], [4]), ([5], [5]), ([6, 5, 5], [5, 6]), ([5, 7], [5, 7]), ([8, 7], [8]), ([9, 9], [9]), ([9, 10], [9, 10]), ([11, 10, 0, 1, 2, 3, 4, 5, 6, 7, 8, 9, 10, 11], [11])])
def fieldsR.B : List Nat := [0, 1, 0, 7, 15, 31, 63, 127, 255, 511, 1023, 2047, 4095]
theorem fieldsR.tab : rtab .any (opsOf Try.f4 16) = fieldsR.T := by kernel_rfl
theorem fieldsR.bits : waitsOk fieldsR.T.2 fieldsR.B = true := by kernel_rfl
def fieldsR.l0 : Array Bool := #[true, false, false, false, false, false, false, false, false, false, false, false, false]
def fieldsR.l1 : Array Bool := #[true, false, true, false, false, false, false, false, false, false, false, false, false]
def fieldsR.l2 : Array Bool := #[true, true, true, false, false, false, false, false, false, false, false, false, false]
def fieldsR.l3 : Array Bool := #[true, true, true, true, false, false, false, false, false, false, false, false, false]
def fieldsR.l4 : Array Bool := #[true, true, true, true, true, false, false, false, false, false, false, false, false]
def fieldsR.l5 : Array Bool := #[true, true, true, true, true, true, false, false, false, false, false, false, false]
def fieldsR.l6 : Array Bool := #[true, true, true, true, true, true, true, false, false, false, false, false, false]
def fieldsR.l7 : Array Bool := #[true, true, true, true, true, true, true, true, false, false, false, false, false]
def fieldsR.l8 : Array Bool := #[true, true, true, true, true, true, true, true, true, false, false, false, false]
def fieldsR.l9 : Array Bool := #[true, true, true, true, true, true, true, true, true, true, false, false, false]
def fieldsR.l10 : Array Bool := #[true, true, true, true, true, true, true, true, true, true, true, false, false]
def fieldsR.l11 : Array Bool := #[true, true, true, true, true, true, true, true, true, true, true, true, false]
def fieldsR.l12 : Array Bool := #[true, true, true, true, true, true, true, true, true, true, true, true, true]
theorem cells_set_sum (x : Ext) (A : Option Addr) (c i : Nat) (v : Int) (hx : x.sum.length = 32) (hi : i < 32) (h0 : 0 ≤ v) (h1 : v ≤ 255) : (x.cells A c).set (7 + i) (.int .u8 v) = ({ x with sum := x.sum.set i (UInt8.ofNat v.toNat) } : Ext).cells A c := by
  have e : cell (UInt8.ofNat v.toNat) = .int .u8 v := by
    show Value.int .u8 ((UInt8.ofNat v.toNat).toNat : Int) = _
    rw [UInt8.toNat_ofNat']
    congr 1
    omega
  unfold Ext.cells
  rw [List.set_append_right _ _ (by simp), List.set_append_left _ _ (by simp; rw [hx]; omega)]
  simp only [List.length_cons, List.length_nil, List.map_set, e]
  rw [show 7 + i - (0 + 1 + 1 + 1 + 1 + 1 + 1 + 1) = i by omega]
set_option maxRecDepth 100000 in
set_option maxHeartbeats 32000000 in
theorem walk (x : Ext) (A : Option Addr) (c : Nat) (f n : Int) (W : World) (hx : x.sum.length = 32) (hC : Kd.C k25 W A x.call.f3.length x.call.f3) (hc : x.call.f3.length ≤ c) :
    Calls Try.prog 4 #[.agg (x.cells A c).toArray, .int .i64 f, .int .i64 n] W fun e w' => e = .returned (.bool true) ∧ Below W.heap.size W w' := by
  obtain ⟨F, hF⟩ := fits_kids W x.call A hC
  obtain ⟨k, r, hs⟩ := size_some F x.call hF
  obtain ⟨L, hL⟩ : ∃ L, L = x.cells A c := ⟨_, rfl⟩
  obtain ⟨e0, he0⟩ : ∃ b, isExtP x = b := ⟨_, rfl⟩
  have HRX : Aside0 (∀ w, Below W.heap.size W w → Calls Try.prog 13 #[.agg L.toArray] w fun e w' => e = .returned (.bool e0) ∧ Below w.heap.size w w') := ⟨fun w hb => by rw [hL, ← he0]; exact althingref7_IsExt.all x A c w hx (Kd.C_below hC hb) hc⟩
  have HOX : Aside0 (∀ w, Below W.heap.size W w → Calls Try.prog 14 #[.agg L.toArray] w fun e w' => e = .returned (.bool e0) ∧ Below w.heap.size w w') := ⟨fun w hb => by rw [hL, ← he0]; exact code_IsExt.all x A c w hx (Kd.C_below hC hb) hc⟩
  have HIL : Aside0 ((Try.prog.info? 33).map (·.size) = some L.length) := ⟨by rw [hL, Ext.cells_length _ _ _ hx]; exact info_ext'⟩
  have HCC0 := Aside0.mk (fun (w' : World) (g : Nat) (h : w'.rangeAt g 0 L) => x.at_call A c hx (hL ▸ h))
  have HCC : Aside0 (∀ {g : Nat} (w' : World) (h : w'.rangeAt g 0 L), w'.cell? ⟨g, 45, none⟩ = some (.int .i64 x.call.f0) ∧ w'.cell? ⟨g, 46, none⟩ = some (.int .i64 x.call.f1) ∧ w'.cell? ⟨g, 47, none⟩ = some (.int .i64 x.call.f2) ∧ w'.cell? ⟨g, 48, none⟩ = some (.slice A x.call.f3.length c)) := ⟨fun w' h => HCC0.out w' _ h⟩
  rw [← hL]
  have HL := Aside0.mk hL
  have HC := Aside0.mk hC
  have Hc := Aside0.mk hc
  have Hx := Aside0.mk hx
  have HS := Aside0.mk hs
  clear hL hC hc hx hs hF he0 HCC0
  by_cases h1 : r ≥ 300
  · have d1 : decide (r ≥ 300) = true := decide_eq_true h1
    go_enter Try.func4, Try.ntmps4
    go_upto_region 1 with ((with_reducible refine gate_dst (N := 3) rfl ?_); refine box_event ?hg (N := 3) ?hd (cs := L.toArray) (t := 33) ?hr ?_; (case hd => rfl); (case hg => rfl); (case hr => first | (go_simp; done) | (go_simp; rfl)); intro g3 hg1 w1 hbox1 hb1; have hR3 := rangeAt_box hbox1; have hZ3 := blk_lt hbox1; have hT0 := hb1; clear hg1 hbox1 hb1)
    obtain ⟨c0, c1, c2, c3⟩ := HCC.out _ hR3
    go_wp2_with (first
      | (go_at_call 12; with_reducible refine (althinglaw7_size.calls k x.call.f0 x.call.f1 x.call.f2 A c x.call.f3 r _ (Kd.C_below HC.out hT0) Hc.out HS.out).mono ?_; rintro e w2 ⟨rfl, hB5⟩; replace hR3 := rangeAt_below hR3 hB5 hZ3; replace hT0 := below_step hT0 hB5; replace hZ3 := Nat.lt_of_lt_of_le hZ3 hB5.size; clear hB5))
    all_goals go_ret
    all_goals exact ⟨rfl, hT0⟩
  have d1 : decide (r ≥ 300) = false := decide_eq_false h1
  cases e0 with
  | false =>
  · skip
    go_enter Try.func4, Try.ntmps4
    go_upto_region 1 with ((with_reducible refine gate_dst (N := 3) rfl ?_); refine box_event ?hg (N := 3) ?hd (cs := L.toArray) (t := 33) ?hr ?_; (case hd => rfl); (case hg => rfl); (case hr => first | (go_simp; done) | (go_simp; rfl)); intro g3 hg1 w1 hbox1 hb1; have hR3 := rangeAt_box hbox1; have hZ3 := blk_lt hbox1; have hT0 := hb1; clear hg1 hbox1 hb1)
    obtain ⟨c0, c1, c2, c3⟩ := HCC.out _ hR3
    go_wp2_with (first
      | (go_at_call 12; with_reducible refine (althinglaw7_size.calls k x.call.f0 x.call.f1 x.call.f2 A c x.call.f3 r _ (Kd.C_below HC.out hT0) Hc.out HS.out).mono ?_; rintro e w2 ⟨rfl, hB5⟩; replace hR3 := rangeAt_below hR3 hB5 hZ3; replace hT0 := below_step hT0 hB5; replace hZ3 := Nat.lt_of_lt_of_le hZ3 hB5.size; clear hB5)
      | ((with_reducible refine gate_dst (N := 13) rfl ?_); refine gate_guard (by rfl) ?_; refine wpList_load_mid rfl 33 _ rfl g3 0 rfl L _ hR3 Try.underlying33 rfl HIL.out ?_)
      | (go_at_call 13; with_reducible refine (HRX.out _ hT0).mono ?_; rintro e w3 ⟨rfl, hB5⟩; replace hR3 := rangeAt_below hR3 hB5 hZ3; replace hT0 := below_step hT0 hB5; replace hZ3 := Nat.lt_of_lt_of_le hZ3 hB5.size; clear hB5))
    all_goals go_ret
    all_goals exact ⟨rfl, hT0⟩
  | true =>
  by_cases h2 : f < 0
  · have d2 : decide (f < 0) = true := decide_eq_true h2
    go_enter Try.func4, Try.ntmps4
    go_upto_region 1 with ((with_reducible refine gate_dst (N := 3) rfl ?_); refine box_event ?hg (N := 3) ?hd (cs := L.toArray) (t := 33) ?hr ?_; (case hd => rfl); (case hg => rfl); (case hr => first | (go_simp; done) | (go_simp; rfl)); intro g3 hg1 w1 hbox1 hb1; have hR3 := rangeAt_box hbox1; have hZ3 := blk_lt hbox1; have hT0 := hb1; clear hg1 hbox1 hb1)
    obtain ⟨c0, c1, c2, c3⟩ := HCC.out _ hR3
    go_wp2_with (first
      | (go_at_call 12; with_reducible refine (althinglaw7_size.calls k x.call.f0 x.call.f1 x.call.f2 A c x.call.f3 r _ (Kd.C_below HC.out hT0) Hc.out HS.out).mono ?_; rintro e w2 ⟨rfl, hB5⟩; replace hR3 := rangeAt_below hR3 hB5 hZ3; replace hT0 := below_step hT0 hB5; replace hZ3 := Nat.lt_of_lt_of_le hZ3 hB5.size; clear hB5)
      | ((with_reducible refine gate_dst (N := 13) rfl ?_); refine gate_guard (by rfl) ?_; refine wpList_load_mid rfl 33 _ rfl g3 0 rfl L _ hR3 Try.underlying33 rfl HIL.out ?_)
      | (go_at_call 13; with_reducible refine (HRX.out _ hT0).mono ?_; rintro e w3 ⟨rfl, hB5⟩; replace hR3 := rangeAt_below hR3 hB5 hZ3; replace hT0 := below_step hT0 hB5; replace hZ3 := Nat.lt_of_lt_of_le hZ3 hB5.size; clear hB5))
    all_goals go_ret
    all_goals exact ⟨rfl, hT0⟩
  have d2 : decide (f < 0) = false := decide_eq_false h2
  by_cases h3 : f > 5
  · have d3 : decide (f > 5) = true := decide_eq_true h3
    go_enter Try.func4, Try.ntmps4
    go_upto_region 1 with ((with_reducible refine gate_dst (N := 3) rfl ?_); refine box_event ?hg (N := 3) ?hd (cs := L.toArray) (t := 33) ?hr ?_; (case hd => rfl); (case hg => rfl); (case hr => first | (go_simp; done) | (go_simp; rfl)); intro g3 hg1 w1 hbox1 hb1; have hR3 := rangeAt_box hbox1; have hZ3 := blk_lt hbox1; have hT0 := hb1; clear hg1 hbox1 hb1)
    obtain ⟨c0, c1, c2, c3⟩ := HCC.out _ hR3
    go_wp2_with (first
      | (go_at_call 12; with_reducible refine (althinglaw7_size.calls k x.call.f0 x.call.f1 x.call.f2 A c x.call.f3 r _ (Kd.C_below HC.out hT0) Hc.out HS.out).mono ?_; rintro e w2 ⟨rfl, hB5⟩; replace hR3 := rangeAt_below hR3 hB5 hZ3; replace hT0 := below_step hT0 hB5; replace hZ3 := Nat.lt_of_lt_of_le hZ3 hB5.size; clear hB5)
      | ((with_reducible refine gate_dst (N := 13) rfl ?_); refine gate_guard (by rfl) ?_; refine wpList_load_mid rfl 33 _ rfl g3 0 rfl L _ hR3 Try.underlying33 rfl HIL.out ?_)
      | (go_at_call 13; with_reducible refine (HRX.out _ hT0).mono ?_; rintro e w3 ⟨rfl, hB5⟩; replace hR3 := rangeAt_below hR3 hB5 hZ3; replace hT0 := below_step hT0 hB5; replace hZ3 := Nat.lt_of_lt_of_le hZ3 hB5.size; clear hB5))
    all_goals go_ret
    all_goals exact ⟨rfl, hT0⟩
  have d3 : decide (f > 5) = false := decide_eq_false h3
  by_cases h4 : n < 1
  · have d4 : decide (n < 1) = true := decide_eq_true h4
    go_enter Try.func4, Try.ntmps4
    go_upto_region 1 with ((with_reducible refine gate_dst (N := 3) rfl ?_); refine box_event ?hg (N := 3) ?hd (cs := L.toArray) (t := 33) ?hr ?_; (case hd => rfl); (case hg => rfl); (case hr => first | (go_simp; done) | (go_simp; rfl)); intro g3 hg1 w1 hbox1 hb1; have hR3 := rangeAt_box hbox1; have hZ3 := blk_lt hbox1; have hT0 := hb1; clear hg1 hbox1 hb1)
    obtain ⟨c0, c1, c2, c3⟩ := HCC.out _ hR3
    go_wp2_with (first
      | (go_at_call 12; with_reducible refine (althinglaw7_size.calls k x.call.f0 x.call.f1 x.call.f2 A c x.call.f3 r _ (Kd.C_below HC.out hT0) Hc.out HS.out).mono ?_; rintro e w2 ⟨rfl, hB5⟩; replace hR3 := rangeAt_below hR3 hB5 hZ3; replace hT0 := below_step hT0 hB5; replace hZ3 := Nat.lt_of_lt_of_le hZ3 hB5.size; clear hB5)
      | ((with_reducible refine gate_dst (N := 13) rfl ?_); refine gate_guard (by rfl) ?_; refine wpList_load_mid rfl 33 _ rfl g3 0 rfl L _ hR3 Try.underlying33 rfl HIL.out ?_)
      | (go_at_call 13; with_reducible refine (HRX.out _ hT0).mono ?_; rintro e w3 ⟨rfl, hB5⟩; replace hR3 := rangeAt_below hR3 hB5 hZ3; replace hT0 := below_step hT0 hB5; replace hZ3 := Nat.lt_of_lt_of_le hZ3 hB5.size; clear hB5))
    all_goals go_ret
    all_goals exact ⟨rfl, hT0⟩
  have d4 : decide (n < 1) = false := decide_eq_false h4
  by_cases h5 : n > 3
  · have d5 : decide (n > 3) = true := decide_eq_true h5
    go_enter Try.func4, Try.ntmps4
    go_upto_region 1 with ((with_reducible refine gate_dst (N := 3) rfl ?_); refine box_event ?hg (N := 3) ?hd (cs := L.toArray) (t := 33) ?hr ?_; (case hd => rfl); (case hg => rfl); (case hr => first | (go_simp; done) | (go_simp; rfl)); intro g3 hg1 w1 hbox1 hb1; have hR3 := rangeAt_box hbox1; have hZ3 := blk_lt hbox1; have hT0 := hb1; clear hg1 hbox1 hb1)
    obtain ⟨c0, c1, c2, c3⟩ := HCC.out _ hR3
    go_wp2_with (first
      | (go_at_call 12; with_reducible refine (althinglaw7_size.calls k x.call.f0 x.call.f1 x.call.f2 A c x.call.f3 r _ (Kd.C_below HC.out hT0) Hc.out HS.out).mono ?_; rintro e w2 ⟨rfl, hB5⟩; replace hR3 := rangeAt_below hR3 hB5 hZ3; replace hT0 := below_step hT0 hB5; replace hZ3 := Nat.lt_of_lt_of_le hZ3 hB5.size; clear hB5)
      | ((with_reducible refine gate_dst (N := 13) rfl ?_); refine gate_guard (by rfl) ?_; refine wpList_load_mid rfl 33 _ rfl g3 0 rfl L _ hR3 Try.underlying33 rfl HIL.out ?_)
      | (go_at_call 13; with_reducible refine (HRX.out _ hT0).mono ?_; rintro e w3 ⟨rfl, hB5⟩; replace hR3 := rangeAt_below hR3 hB5 hZ3; replace hT0 := below_step hT0 hB5; replace hZ3 := Nat.lt_of_lt_of_le hZ3 hB5.size; clear hB5))
    all_goals go_ret
    all_goals exact ⟨rfl, hT0⟩
  have d5 : decide (n > 3) = false := decide_eq_false h5
  obtain ⟨Z, hZ⟩ : ∃ Z, Z = (ext0 0 0).cells none 0 := ⟨_, rfl⟩
  have hZl : Z.length = 49 := by rw [hZ]; rfl
  have hal : ∀ w, (zeroValue 33).run Try.prog w = .ok (.agg Z.toArray) w := fun w => by rw [hZ]; exact zero_ext w
  have HZl := Aside0.mk hZl
  clear hZ hZl
  have HLl : Aside0 (L.length = 49) := ⟨by rw [HL.out]; exact Ext.cells_length _ _ _ Hx.out⟩
  have HLo : Aside0 (∀ v ∈ L, v.oneCell' = true) := ⟨by rw [HL.out]; exact Ext.cells_one _ _ _⟩
  · go_enter Try.func4, Try.ntmps4
    go_upto_region 1 with ((with_reducible refine gate_dst (N := 3) rfl ?_); refine box_event ?hg (N := 3) ?hd (cs := L.toArray) (t := 33) ?hr ?_; (case hd => rfl); (case hg => rfl); (case hr => first | (go_simp; done) | (go_simp; rfl)); intro g3 hg1 w1 hbox1 hb1; have hR3 := rangeAt_box hbox1; have hZ3 := blk_lt hbox1; have hT0 := hb1; clear hg1 hbox1 hb1)
    obtain ⟨c0, c1, c2, c3⟩ := HCC.out _ hR3
    go_upto_region 3 with (first
      | (go_at_call 12; with_reducible refine (althinglaw7_size.calls k x.call.f0 x.call.f1 x.call.f2 A c x.call.f3 r _ (Kd.C_below HC.out hT0) Hc.out HS.out).mono ?_; rintro e w2 ⟨rfl, hB5⟩; replace hR3 := rangeAt_below hR3 hB5 hZ3; replace hT0 := below_step hT0 hB5; replace hZ3 := Nat.lt_of_lt_of_le hZ3 hB5.size; clear hB5)
      | ((with_reducible refine gate_dst (N := 13) rfl ?_); refine gate_guard (by rfl) ?_; refine wpList_load_mid rfl 33 _ rfl g3 0 rfl L _ hR3 Try.underlying33 rfl HIL.out ?_)
      | (go_at_call 13; with_reducible refine (HRX.out _ hT0).mono ?_; rintro e w3 ⟨rfl, hB5⟩; replace hR3 := rangeAt_below hR3 hB5 hZ3; replace hT0 := below_step hT0 hB5; replace hZ3 := Nat.lt_of_lt_of_le hZ3 hB5.size; clear hB5))
    clear c0 c1 c2 c3
    go_upto_region 4 with (first
      | ((with_reducible refine gate_dst (N := 33) rfl ?_); refine wpList_load_mid rfl 33 _ rfl g3 0 rfl L _ hR3 Try.underlying33 rfl HIL.out ?_)
      | ((with_reducible refine gate_dst (N := 7) rfl ?_); refine box_event ?hg (N := 7) ?hd (cs := Z.toArray) (t := 33) ?hr ?_; (case hd => rfl); (case hg => rfl); (case hr => first | (simp [execOp, Instr.alloc, hal, newVar, newRow, go_sem]; done) | (simp [execOp, Instr.alloc, hal, newVar, newRow, go_sem]; rfl)); intro g7 hg_ w4 hbox_ hb_; have G7 := Aside0.mk hg_; have BZ := Aside0.mk (there_box hbox_); have hZ7 := blk_lt hbox_; have hT3 := hT0; replace hR3 := rangeAt_below hR3 hb_ hZ3; replace hT0 := below_step hT0 hb_; clear hg_ hbox_ hb_)
      | ((with_reducible refine gate_store (t := 33) (p := 7) rfl ?_); refine wpList_store_mid rfl 33 _ _ rfl g7 0 L.toArray rfl rfl (by rw [List.size_toArray, HLl.out, ← HZl.out]; exact BZ.out) (by rw [List.size_toArray]; exact HIL.out) (all_oneCell_toArray HLo.out) ?_))
    have ne37 : g3 ≠ g7 := by have := G7.out; omega
    have hn7 : W.heap.size ≤ g7 := by have := G7.out; have := hT3.size; omega
    have n0_ : Lies (w4.setCells g7 0 L) g7 L := ⟨World.rangeAt_setCells_same w4 g7 0 L (by rw [HLl.out, ← HZl.out]; exact BZ.out), by have := World.there_setCells BZ.out g7 0 L; rwa [HZl.out, ← HLl.out] at this⟩
    replace hR3 := World.rangeAt_setCells_apart hR3 g7 0 L (.inl ne37)
    replace hT0 := below_setCells g7 hn7 L 0 w4 hT0
    replace hZ7 : g7 < (w4.setCells g7 0 L).heap.size := n0_.lt (by rw [HLl.out]; decide)
    replace hZ3 : g3 < (w4.setCells g7 0 L).heap.size := by have := G7.out; omega
    generalize w4.setCells g7 0 L = wB at n0_ hR3 hT0 hZ7 hZ3 ⊢
    have LB := Aside0.mk n0_
    clear n0_ hT3 BZ
    have hf6 : f = 0 ∨ f = 1 ∨ f = 2 ∨ f = 3 ∨ f = 4 ∨ f = 5 := by omega
    have hn3 : n = 1 ∨ n = 2 ∨ n = 3 := by omega
    have HN3 := Aside0.mk hn3
    clear h2 h3 h4 h5 d2 d3 hn3
    rcases hf6 with h | h | h | h | h | h
    all_goals subst h
    · have p_ := LB.out.cell (i := 2) (v := .int .i64 x.dest) (by rw [HL.out]; rfl)
      have q_ := LB.out.frozen 2 (by rw [HLl.out]; decide)
      go_upto_region 16 with (fail)
      have n0_ := LB.out.set 2 (by rw [HLl.out]; decide) (.int .i64 n)
      have hb_ := hT0.setCell (p := ⟨g7, 2, none⟩) hn7 (.int .i64 n)
      have hr_ := far_range hR3 ne37 2 (.int .i64 n)
      clear p_ q_
      replace hT0 := hb_
      replace hR3 := hr_
      clear hb_ hr_
      replace hZ7 : g7 < (wB.setCell ⟨g7, 2, none⟩ (.int .i64 n)).heap.size := by rw [World.size_setCell]; exact hZ7
      replace hZ3 : g3 < (wB.setCell ⟨g7, 2, none⟩ (.int .i64 n)).heap.size := by rw [World.size_setCell]; exact hZ3
      generalize World.setCell _ _ _ = wA at n0_ hT0 hR3 hZ7 hZ3 ⊢
      obtain ⟨y, hyl, hyc, hyL⟩ : ∃ y : Ext, y.sum.length = 32 ∧ y.call = x.call ∧ Lies wA g7 (y.cells A c) := ⟨{ x with dest := n }, Hx.out, rfl, by rw [HL.out] at n0_; exact n0_⟩
      clear n0_
      have HYL := Aside0.mk hyL
      have HYl := Aside0.mk hyl
      have HYc := Aside0.mk hyc
      have hR7 := hyL.range
      obtain ⟨LY, hLY⟩ : ∃ LY, LY = y.cells A c := ⟨_, rfl⟩
      rw [← hLY] at hR7
      have HILY : Aside0 ((Try.prog.info? 33).map (·.size) = some LY.length) := ⟨by rw [hLY, Ext.cells_length _ _ _ hyl]; exact info_ext'⟩
      obtain ⟨ey, hey⟩ : ∃ b, isExtP y = b := ⟨_, rfl⟩
      have HRY : Aside0 (∀ w, Below W.heap.size W w → Calls Try.prog 13 #[.agg LY.toArray] w fun e w' => e = .returned (.bool ey) ∧ Below w.heap.size w w') := ⟨fun w hb => by rw [hLY, ← hey]; exact althingref7_IsExt.all y A c w HYl.out (by rw [HYc.out]; exact Kd.C_below HC.out hb) (by rw [HYc.out]; exact Hc.out)⟩
      have HOY : Aside0 (∀ w, Below W.heap.size W w → Calls Try.prog 14 #[.agg LY.toArray] w fun e w' => e = .returned (.bool ey) ∧ Below w.heap.size w w') := ⟨fun w hb => by rw [hLY, ← hey]; exact code_IsExt.all y A c w HYl.out (by rw [HYc.out]; exact Kd.C_below HC.out hb) (by rw [HYc.out]; exact Hc.out)⟩
      clear hyL hyl hyc hLY hey
      refine start_ (n := 13) (S := fun w' => w'.rangeAt g7 0 LY ∧ w'.rangeAt g3 0 L) (ds := []) #[false, false, false, false, false, false, false, false, false, false, false, false, false] (by kernel_rfl) rfl rfl ⟨(World.rangeAt_drew wA g7 0 LY).2 hR7, (World.rangeAt_drew wA g3 0 L).2 hR3⟩ (fun hHeld => ?_)
      refine with_tabW fieldsR.tab fieldsR.bits (fun HT_ HW_ => ?_)
      replace hR7 := hHeld.1
      replace hR3 := hHeld.2
      replace hT0 : Below W.heap.size W wA.drew := below_drew hT0
      replace hZ7 : g7 < wA.drew.heap.size := hZ7
      replace hZ3 : g3 < wA.drew.heap.size := hZ3
      generalize wA.drew = wq at hR7 hR3 hT0 hZ7 hZ3 hHeld ⊢
      refine take_ (i := 0) (N := some 62) (v := ?_) (a' := ?_) fieldsR.l0 rfl rfl (take_ofW HT_.out HW_.out (by kernel_rfl)) (fun _ _ _ h => h) (Or.inl ⟨by rfl, ?_⟩) hHeld ?_ ?_
      rotate_left
      · intro w' hs_
        refine load_runO (ty := 33) (y := .tmp 7) (g := g7) (off := 0) (L := LY) ?_ ?_ hs_.1 Try.underlying33 rfl HILY.out <;> rfl
      rotate_left
      · simp only [Act.put, List.setIfInBounds_toArray, List.set_cons_zero, List.set_cons_succ, i64_w, i32_w]
        rfl
      refine take_ (i := 2) (N := some 64) (v := ?_) (a' := ?_) fieldsR.l1 rfl rfl (take_ofW HT_.out HW_.out (by kernel_rfl)) (fun _ _ _ h => h) (Or.inl ⟨by rfl, ?_⟩) hHeld ?_ ?_
      rotate_left
      · intro w' hs_
        refine load_runO (ty := 33) (y := .tmp 7) (g := g7) (off := 0) (L := LY) ?_ ?_ hs_.1 Try.underlying33 rfl HILY.out <;> rfl
      rotate_left
      · simp only [Act.put, List.setIfInBounds_toArray, List.set_cons_zero, List.set_cons_succ, i64_w, i32_w]
        rfl
      refine one_ (i := 1) (N := some 63) fieldsR.l2 rfl rfl (one_of HT_.out (by kernel_rfl)) (by decide) (fun K hK => ?_)
      refine goes_ Try.func14 (by kernel_rfl) rfl #[.agg LY.toArray] (by rfl) rfl rfl (by (try simp only [List.map_toArray, List.map_cons, List.map_nil]); first | done | rfl) ?_
      refine (HOY.out _ hT0).mono ?_
      rintro e w5 ⟨rfl, hB5⟩
      refine ⟨_, rfl, ?_⟩
      replace hR7 := rangeAt_below hR7 hB5 hZ7
      replace hR3 := rangeAt_below hR3 hB5 hZ3
      replace hT0 := below_step hT0 hB5
      replace hZ7 := Nat.lt_of_lt_of_le hZ7 hB5.size
      replace hZ3 := Nat.lt_of_lt_of_le hZ3 hB5.size
      clear hB5
      refine hK.out _ _ ⟨hR7, hR3⟩ (fun hHeld => ?_)
      clear hK K
      refine norm_ (a' := ?_) ?_ ?_
      rotate_left
      · show Act.put _ (some 63) _ = _
        simp only [Act.put, List.setIfInBounds_toArray, List.set_cons_zero, List.set_cons_succ, i64_w, i32_w]
        rfl
      refine one_ (i := 3) (N := some 65) fieldsR.l3 rfl rfl (one_of HT_.out (by kernel_rfl)) (by decide) (fun K hK => ?_)
      refine goes_ Try.func13 (by kernel_rfl) rfl #[.agg LY.toArray] (by rfl) rfl rfl (by (try simp only [List.map_toArray, List.map_cons, List.map_nil]); first | done | rfl) ?_
      refine (HRY.out _ hT0).mono ?_
      rintro e w5 ⟨rfl, hB5⟩
      refine ⟨_, rfl, ?_⟩
      replace hR7 := rangeAt_below hR7 hB5 hZ7
      replace hR3 := rangeAt_below hR3 hB5 hZ3
      replace hT0 := below_step hT0 hB5
      replace hZ7 := Nat.lt_of_lt_of_le hZ7 hB5.size
      replace hZ3 := Nat.lt_of_lt_of_le hZ3 hB5.size
      clear hB5
      refine hK.out _ _ ⟨hR7, hR3⟩ (fun hHeld => ?_)
      clear hK K
      refine norm_ (a' := ?_) ?_ ?_
      rotate_left
      · show Act.put _ (some 65) _ = _
        simp only [Act.put, List.setIfInBounds_toArray, List.set_cons_zero, List.set_cons_succ, i64_w, i32_w]
        rfl
      refine pure_ (i := 4) (N := some 66) (v := ?_) (a' := ?_) fieldsR.l4 rfl rfl (any_of HT_.out (by kernel_rfl)) (fun _ _ _ h => h) (Or.inl ⟨by rfl, ?_⟩) ?_ ?_
      rotate_left
      · intro w'
        go_simp
        with_reducible rfl
      rotate_left
      · simp only [Act.put, List.setIfInBounds_toArray, List.set_cons_zero, List.set_cons_succ, i64_w, i32_w]
        rfl
      refine pure_ (i := 5) (N := some 67) (v := ?_) (a' := ?_) fieldsR.l5 rfl rfl (any_of HT_.out (by kernel_rfl)) (fun _ _ _ h => h) (Or.inl ⟨by rfl, ?_⟩) ?_ ?_
      rotate_left
      · intro w'
        go_simp
        with_reducible rfl
      rotate_left
      · simp only [Act.put, List.setIfInBounds_toArray, List.set_cons_zero, List.set_cons_succ, i64_w, i32_w]
        rfl
      refine take_ (i := 6) (N := some 68) (v := ?_) (a' := ?_) fieldsR.l6 rfl rfl (take_ofW HT_.out HW_.out (by kernel_rfl)) (fun _ _ _ h => h) (Or.inl ⟨by rfl, ?_⟩) hHeld ?_ ?_
      rotate_left
      · intro w' hs_
        refine load_runO (ty := 33) (y := .tmp 3) (g := g3) (off := 0) (L := L) ?_ ?_ hs_.2 Try.underlying33 rfl HIL.out <;> rfl
      rotate_left
      · simp only [Act.put, List.setIfInBounds_toArray, List.set_cons_zero, List.set_cons_succ, i64_w, i32_w]
        rfl
      refine one_ (i := 7) (N := some 69) fieldsR.l7 rfl rfl (one_of HT_.out (by kernel_rfl)) (by decide) (fun K hK => ?_)
      refine goes_ Try.func14 (by kernel_rfl) rfl #[.agg L.toArray] (by rfl) rfl rfl (by (try simp only [List.map_toArray, List.map_cons, List.map_nil]); first | done | rfl) ?_
      refine (HOX.out _ hT0).mono ?_
      rintro e w5 ⟨rfl, hB5⟩
      refine ⟨_, rfl, ?_⟩
      replace hR7 := rangeAt_below hR7 hB5 hZ7
      replace hR3 := rangeAt_below hR3 hB5 hZ3
      replace hT0 := below_step hT0 hB5
      replace hZ7 := Nat.lt_of_lt_of_le hZ7 hB5.size
      replace hZ3 := Nat.lt_of_lt_of_le hZ3 hB5.size
      clear hB5
      refine hK.out _ _ ⟨hR7, hR3⟩ (fun hHeld => ?_)
      clear hK K
      refine norm_ (a' := ?_) ?_ ?_
      rotate_left
      · show Act.put _ (some 69) _ = _
        simp only [Act.put, List.setIfInBounds_toArray, List.set_cons_zero, List.set_cons_succ, i64_w, i32_w]
        rfl
      refine pure_ (i := 8) (N := some 70) (v := ?_) (a' := ?_) fieldsR.l8 rfl rfl (any_of HT_.out (by kernel_rfl)) (fun _ _ _ h => h) (Or.inl ⟨by rfl, ?_⟩) ?_ ?_
      rotate_left
      · intro w'
        go_simp
        with_reducible rfl
      rotate_left
      · simp only [Act.put, List.setIfInBounds_toArray, List.set_cons_zero, List.set_cons_succ, i64_w, i32_w]
        rfl
      refine pure_ (i := 9) (N := some 71) (v := ?_) (a' := ?_) fieldsR.l9 rfl rfl (any_of HT_.out (by kernel_rfl)) (fun _ _ _ h => h) (Or.inl ⟨by rfl, ?_⟩) ?_ ?_
      rotate_left
      · intro w'
        go_simp
        with_reducible rfl
      rotate_left
      · simp only [Act.put, List.setIfInBounds_toArray, List.set_cons_zero, List.set_cons_succ, i64_w, i32_w]
        rfl
      refine one_ (i := 10) (N := some 72) fieldsR.l10 rfl rfl (one_of HT_.out (by kernel_rfl)) (by decide) (fun K hK => ?_)
      refine goes_ Try.func10 (by kernel_rfl) rfl #[] (by rfl) rfl rfl (by (try simp only [List.map_toArray, List.map_cons, List.map_nil]); first | done | rfl) ?_
      refine (known_calls _).mono ?_
      rintro e w5 ⟨rfl, hB5⟩
      refine ⟨_, rfl, ?_⟩
      replace hR7 := rangeAt_below hR7 hB5 hZ7
      replace hR3 := rangeAt_below hR3 hB5 hZ3
      replace hT0 := below_step hT0 hB5
      replace hZ7 := Nat.lt_of_lt_of_le hZ7 hB5.size
      replace hZ3 := Nat.lt_of_lt_of_le hZ3 hB5.size
      clear hB5
      refine hK.out _ _ ⟨hR7, hR3⟩ (fun hHeld => ?_)
      clear hK K
      refine norm_ (a' := ?_) ?_ ?_
      rotate_left
      · show Act.put _ (some 72) _ = _
        simp only [Act.put, List.setIfInBounds_toArray, List.set_cons_zero, List.set_cons_succ, i64_w, i32_w]
        rfl
      refine pure_ (i := 11) (N := some 73) (v := ?_) (a' := ?_) fieldsR.l11 rfl rfl (any_of HT_.out (by kernel_rfl)) (fun _ _ _ h => h) (Or.inl ⟨by rfl, ?_⟩) ?_ ?_
      rotate_left
      · intro w'
        go_simp
        with_reducible rfl
      rotate_left
      · simp only [Act.put, List.setIfInBounds_toArray, List.set_cons_zero, List.set_cons_succ, i64_w, i32_w]
        rfl
      refine pure_ (i := 12) (N := some 6) (v := ?_) (a' := ?_) fieldsR.l12 rfl rfl (any_of HT_.out (by kernel_rfl)) (fun _ _ _ h => h) (Or.inl ⟨by rfl, ?_⟩) ?_ ?_
      rotate_left
      · intro w'
        go_simp
        with_reducible rfl
      rotate_left
      · simp only [Act.put, List.setIfInBounds_toArray, List.set_cons_zero, List.set_cons_succ, i64_w, i32_w]
        rfl
      refine done_ (done_of HT_.out (by kernel_rfl)) ?_
      clear HT_ HW_ hHeld
      go_wp2
      all_goals go_ret
      all_goals exact ⟨by simp, hT0⟩
    · have p_ := LB.out.cell (i := 3) (v := .int .i64 x.amt) (by rw [HL.out]; rfl)
      have q_ := LB.out.frozen 3 (by rw [HLl.out]; decide)
      go_upto_region 16 with (fail)
      have n0_ := LB.out.set 3 (by rw [HLl.out]; decide) (.int .i64 n)
      have hb_ := hT0.setCell (p := ⟨g7, 3, none⟩) hn7 (.int .i64 n)
      have hr_ := far_range hR3 ne37 3 (.int .i64 n)
      clear p_ q_
      replace hT0 := hb_
      replace hR3 := hr_
      clear hb_ hr_
      replace hZ7 : g7 < (wB.setCell ⟨g7, 3, none⟩ (.int .i64 n)).heap.size := by rw [World.size_setCell]; exact hZ7
      replace hZ3 : g3 < (wB.setCell ⟨g7, 3, none⟩ (.int .i64 n)).heap.size := by rw [World.size_setCell]; exact hZ3
      generalize World.setCell _ _ _ = wA at n0_ hT0 hR3 hZ7 hZ3 ⊢
      obtain ⟨y, hyl, hyc, hyL⟩ : ∃ y : Ext, y.sum.length = 32 ∧ y.call = x.call ∧ Lies wA g7 (y.cells A c) := ⟨{ x with amt := n }, Hx.out, rfl, by rw [HL.out] at n0_; exact n0_⟩
      clear n0_
      have HYL := Aside0.mk hyL
      have HYl := Aside0.mk hyl
      have HYc := Aside0.mk hyc
      have hR7 := hyL.range
      obtain ⟨LY, hLY⟩ : ∃ LY, LY = y.cells A c := ⟨_, rfl⟩
      rw [← hLY] at hR7
      have HILY : Aside0 ((Try.prog.info? 33).map (·.size) = some LY.length) := ⟨by rw [hLY, Ext.cells_length _ _ _ hyl]; exact info_ext'⟩
      obtain ⟨ey, hey⟩ : ∃ b, isExtP y = b := ⟨_, rfl⟩
      have HRY : Aside0 (∀ w, Below W.heap.size W w → Calls Try.prog 13 #[.agg LY.toArray] w fun e w' => e = .returned (.bool ey) ∧ Below w.heap.size w w') := ⟨fun w hb => by rw [hLY, ← hey]; exact althingref7_IsExt.all y A c w HYl.out (by rw [HYc.out]; exact Kd.C_below HC.out hb) (by rw [HYc.out]; exact Hc.out)⟩
      have HOY : Aside0 (∀ w, Below W.heap.size W w → Calls Try.prog 14 #[.agg LY.toArray] w fun e w' => e = .returned (.bool ey) ∧ Below w.heap.size w w') := ⟨fun w hb => by rw [hLY, ← hey]; exact code_IsExt.all y A c w HYl.out (by rw [HYc.out]; exact Kd.C_below HC.out hb) (by rw [HYc.out]; exact Hc.out)⟩
      clear hyL hyl hyc hLY hey
      refine start_ (n := 13) (S := fun w' => w'.rangeAt g7 0 LY ∧ w'.rangeAt g3 0 L) (ds := []) #[false, false, false, false, false, false, false, false, false, false, false, false, false] (by kernel_rfl) rfl rfl ⟨(World.rangeAt_drew wA g7 0 LY).2 hR7, (World.rangeAt_drew wA g3 0 L).2 hR3⟩ (fun hHeld => ?_)
      refine with_tabW fieldsR.tab fieldsR.bits (fun HT_ HW_ => ?_)
      replace hR7 := hHeld.1
      replace hR3 := hHeld.2
      replace hT0 : Below W.heap.size W wA.drew := below_drew hT0
      replace hZ7 : g7 < wA.drew.heap.size := hZ7
      replace hZ3 : g3 < wA.drew.heap.size := hZ3
      generalize wA.drew = wq at hR7 hR3 hT0 hZ7 hZ3 hHeld ⊢
      refine take_ (i := 0) (N := some 62) (v := ?_) (a' := ?_) fieldsR.l0 rfl rfl (take_ofW HT_.out HW_.out (by kernel_rfl)) (fun _ _ _ h => h) (Or.inl ⟨by rfl, ?_⟩) hHeld ?_ ?_
      rotate_left
      · intro w' hs_
        refine load_runO (ty := 33) (y := .tmp 7) (g := g7) (off := 0) (L := LY) ?_ ?_ hs_.1 Try.underlying33 rfl HILY.out <;> rfl
      rotate_left
      · simp only [Act.put, List.setIfInBounds_toArray, List.set_cons_zero, List.set_cons_succ, i64_w, i32_w]
        rfl
      refine take_ (i := 2) (N := some 64) (v := ?_) (a' := ?_) fieldsR.l1 rfl rfl (take_ofW HT_.out HW_.out (by kernel_rfl)) (fun _ _ _ h => h) (Or.inl ⟨by rfl, ?_⟩) hHeld ?_ ?_
      rotate_left
      · intro w' hs_
        refine load_runO (ty := 33) (y := .tmp 7) (g := g7) (off := 0) (L := LY) ?_ ?_ hs_.1 Try.underlying33 rfl HILY.out <;> rfl
      rotate_left
      · simp only [Act.put, List.setIfInBounds_toArray, List.set_cons_zero, List.set_cons_succ, i64_w, i32_w]
        rfl
      refine one_ (i := 1) (N := some 63) fieldsR.l2 rfl rfl (one_of HT_.out (by kernel_rfl)) (by decide) (fun K hK => ?_)
      refine goes_ Try.func14 (by kernel_rfl) rfl #[.agg LY.toArray] (by rfl) rfl rfl (by (try simp only [List.map_toArray, List.map_cons, List.map_nil]); first | done | rfl) ?_
      refine (HOY.out _ hT0).mono ?_
      rintro e w5 ⟨rfl, hB5⟩
      refine ⟨_, rfl, ?_⟩
      replace hR7 := rangeAt_below hR7 hB5 hZ7
      replace hR3 := rangeAt_below hR3 hB5 hZ3
      replace hT0 := below_step hT0 hB5
      replace hZ7 := Nat.lt_of_lt_of_le hZ7 hB5.size
      replace hZ3 := Nat.lt_of_lt_of_le hZ3 hB5.size
      clear hB5
      refine hK.out _ _ ⟨hR7, hR3⟩ (fun hHeld => ?_)
      clear hK K
      refine norm_ (a' := ?_) ?_ ?_
      rotate_left
      · show Act.put _ (some 63) _ = _
        simp only [Act.put, List.setIfInBounds_toArray, List.set_cons_zero, List.set_cons_succ, i64_w, i32_w]
        rfl
      refine one_ (i := 3) (N := some 65) fieldsR.l3 rfl rfl (one_of HT_.out (by kernel_rfl)) (by decide) (fun K hK => ?_)
      refine goes_ Try.func13 (by kernel_rfl) rfl #[.agg LY.toArray] (by rfl) rfl rfl (by (try simp only [List.map_toArray, List.map_cons, List.map_nil]); first | done | rfl) ?_
      refine (HRY.out _ hT0).mono ?_
      rintro e w5 ⟨rfl, hB5⟩
      refine ⟨_, rfl, ?_⟩
      replace hR7 := rangeAt_below hR7 hB5 hZ7
      replace hR3 := rangeAt_below hR3 hB5 hZ3
      replace hT0 := below_step hT0 hB5
      replace hZ7 := Nat.lt_of_lt_of_le hZ7 hB5.size
      replace hZ3 := Nat.lt_of_lt_of_le hZ3 hB5.size
      clear hB5
      refine hK.out _ _ ⟨hR7, hR3⟩ (fun hHeld => ?_)
      clear hK K
      refine norm_ (a' := ?_) ?_ ?_
      rotate_left
      · show Act.put _ (some 65) _ = _
        simp only [Act.put, List.setIfInBounds_toArray, List.set_cons_zero, List.set_cons_succ, i64_w, i32_w]
        rfl
      refine pure_ (i := 4) (N := some 66) (v := ?_) (a' := ?_) fieldsR.l4 rfl rfl (any_of HT_.out (by kernel_rfl)) (fun _ _ _ h => h) (Or.inl ⟨by rfl, ?_⟩) ?_ ?_
      rotate_left
      · intro w'
        go_simp
        with_reducible rfl
      rotate_left
      · simp only [Act.put, List.setIfInBounds_toArray, List.set_cons_zero, List.set_cons_succ, i64_w, i32_w]
        rfl
      refine pure_ (i := 5) (N := some 67) (v := ?_) (a' := ?_) fieldsR.l5 rfl rfl (any_of HT_.out (by kernel_rfl)) (fun _ _ _ h => h) (Or.inl ⟨by rfl, ?_⟩) ?_ ?_
      rotate_left
      · intro w'
        go_simp
        with_reducible rfl
      rotate_left
      · simp only [Act.put, List.setIfInBounds_toArray, List.set_cons_zero, List.set_cons_succ, i64_w, i32_w]
        rfl
      refine take_ (i := 6) (N := some 68) (v := ?_) (a' := ?_) fieldsR.l6 rfl rfl (take_ofW HT_.out HW_.out (by kernel_rfl)) (fun _ _ _ h => h) (Or.inl ⟨by rfl, ?_⟩) hHeld ?_ ?_
      rotate_left
      · intro w' hs_
        refine load_runO (ty := 33) (y := .tmp 3) (g := g3) (off := 0) (L := L) ?_ ?_ hs_.2 Try.underlying33 rfl HIL.out <;> rfl
      rotate_left
      · simp only [Act.put, List.setIfInBounds_toArray, List.set_cons_zero, List.set_cons_succ, i64_w, i32_w]
        rfl
      refine one_ (i := 7) (N := some 69) fieldsR.l7 rfl rfl (one_of HT_.out (by kernel_rfl)) (by decide) (fun K hK => ?_)
      refine goes_ Try.func14 (by kernel_rfl) rfl #[.agg L.toArray] (by rfl) rfl rfl (by (try simp only [List.map_toArray, List.map_cons, List.map_nil]); first | done | rfl) ?_
      refine (HOX.out _ hT0).mono ?_
      rintro e w5 ⟨rfl, hB5⟩
      refine ⟨_, rfl, ?_⟩
      replace hR7 := rangeAt_below hR7 hB5 hZ7
      replace hR3 := rangeAt_below hR3 hB5 hZ3
      replace hT0 := below_step hT0 hB5
      replace hZ7 := Nat.lt_of_lt_of_le hZ7 hB5.size
      replace hZ3 := Nat.lt_of_lt_of_le hZ3 hB5.size
      clear hB5
      refine hK.out _ _ ⟨hR7, hR3⟩ (fun hHeld => ?_)
      clear hK K
      refine norm_ (a' := ?_) ?_ ?_
      rotate_left
      · show Act.put _ (some 69) _ = _
        simp only [Act.put, List.setIfInBounds_toArray, List.set_cons_zero, List.set_cons_succ, i64_w, i32_w]
        rfl
      refine pure_ (i := 8) (N := some 70) (v := ?_) (a' := ?_) fieldsR.l8 rfl rfl (any_of HT_.out (by kernel_rfl)) (fun _ _ _ h => h) (Or.inl ⟨by rfl, ?_⟩) ?_ ?_
      rotate_left
      · intro w'
        go_simp
        with_reducible rfl
      rotate_left
      · simp only [Act.put, List.setIfInBounds_toArray, List.set_cons_zero, List.set_cons_succ, i64_w, i32_w]
        rfl
      refine pure_ (i := 9) (N := some 71) (v := ?_) (a' := ?_) fieldsR.l9 rfl rfl (any_of HT_.out (by kernel_rfl)) (fun _ _ _ h => h) (Or.inl ⟨by rfl, ?_⟩) ?_ ?_
      rotate_left
      · intro w'
        go_simp
        with_reducible rfl
      rotate_left
      · simp only [Act.put, List.setIfInBounds_toArray, List.set_cons_zero, List.set_cons_succ, i64_w, i32_w]
        rfl
      refine one_ (i := 10) (N := some 72) fieldsR.l10 rfl rfl (one_of HT_.out (by kernel_rfl)) (by decide) (fun K hK => ?_)
      refine goes_ Try.func10 (by kernel_rfl) rfl #[] (by rfl) rfl rfl (by (try simp only [List.map_toArray, List.map_cons, List.map_nil]); first | done | rfl) ?_
      refine (known_calls _).mono ?_
      rintro e w5 ⟨rfl, hB5⟩
      refine ⟨_, rfl, ?_⟩
      replace hR7 := rangeAt_below hR7 hB5 hZ7
      replace hR3 := rangeAt_below hR3 hB5 hZ3
      replace hT0 := below_step hT0 hB5
      replace hZ7 := Nat.lt_of_lt_of_le hZ7 hB5.size
      replace hZ3 := Nat.lt_of_lt_of_le hZ3 hB5.size
      clear hB5
      refine hK.out _ _ ⟨hR7, hR3⟩ (fun hHeld => ?_)
      clear hK K
      refine norm_ (a' := ?_) ?_ ?_
      rotate_left
      · show Act.put _ (some 72) _ = _
        simp only [Act.put, List.setIfInBounds_toArray, List.set_cons_zero, List.set_cons_succ, i64_w, i32_w]
        rfl
      refine pure_ (i := 11) (N := some 73) (v := ?_) (a' := ?_) fieldsR.l11 rfl rfl (any_of HT_.out (by kernel_rfl)) (fun _ _ _ h => h) (Or.inl ⟨by rfl, ?_⟩) ?_ ?_
      rotate_left
      · intro w'
        go_simp
        with_reducible rfl
      rotate_left
      · simp only [Act.put, List.setIfInBounds_toArray, List.set_cons_zero, List.set_cons_succ, i64_w, i32_w]
        rfl
      refine pure_ (i := 12) (N := some 6) (v := ?_) (a' := ?_) fieldsR.l12 rfl rfl (any_of HT_.out (by kernel_rfl)) (fun _ _ _ h => h) (Or.inl ⟨by rfl, ?_⟩) ?_ ?_
      rotate_left
      · intro w'
        go_simp
        with_reducible rfl
      rotate_left
      · simp only [Act.put, List.setIfInBounds_toArray, List.set_cons_zero, List.set_cons_succ, i64_w, i32_w]
        rfl
      refine done_ (done_of HT_.out (by kernel_rfl)) ?_
      clear HT_ HW_ hHeld
      go_wp2
      all_goals go_ret
      all_goals exact ⟨by simp, hT0⟩
    · have p_ := LB.out.cell (i := 4) (v := .int .i64 x.rfd) (by rw [HL.out]; rfl)
      have q_ := LB.out.frozen 4 (by rw [HLl.out]; decide)
      go_upto_region 16 with (fail)
      have n0_ := LB.out.set 4 (by rw [HLl.out]; decide) (.int .i64 n)
      have hb_ := hT0.setCell (p := ⟨g7, 4, none⟩) hn7 (.int .i64 n)
      have hr_ := far_range hR3 ne37 4 (.int .i64 n)
      clear p_ q_
      replace hT0 := hb_
      replace hR3 := hr_
      clear hb_ hr_
      replace hZ7 : g7 < (wB.setCell ⟨g7, 4, none⟩ (.int .i64 n)).heap.size := by rw [World.size_setCell]; exact hZ7
      replace hZ3 : g3 < (wB.setCell ⟨g7, 4, none⟩ (.int .i64 n)).heap.size := by rw [World.size_setCell]; exact hZ3
      generalize World.setCell _ _ _ = wA at n0_ hT0 hR3 hZ7 hZ3 ⊢
      obtain ⟨y, hyl, hyc, hyL⟩ : ∃ y : Ext, y.sum.length = 32 ∧ y.call = x.call ∧ Lies wA g7 (y.cells A c) := ⟨{ x with rfd := n }, Hx.out, rfl, by rw [HL.out] at n0_; exact n0_⟩
      clear n0_
      have HYL := Aside0.mk hyL
      have HYl := Aside0.mk hyl
      have HYc := Aside0.mk hyc
      have hR7 := hyL.range
      obtain ⟨LY, hLY⟩ : ∃ LY, LY = y.cells A c := ⟨_, rfl⟩
      rw [← hLY] at hR7
      have HILY : Aside0 ((Try.prog.info? 33).map (·.size) = some LY.length) := ⟨by rw [hLY, Ext.cells_length _ _ _ hyl]; exact info_ext'⟩
      obtain ⟨ey, hey⟩ : ∃ b, isExtP y = b := ⟨_, rfl⟩
      have HRY : Aside0 (∀ w, Below W.heap.size W w → Calls Try.prog 13 #[.agg LY.toArray] w fun e w' => e = .returned (.bool ey) ∧ Below w.heap.size w w') := ⟨fun w hb => by rw [hLY, ← hey]; exact althingref7_IsExt.all y A c w HYl.out (by rw [HYc.out]; exact Kd.C_below HC.out hb) (by rw [HYc.out]; exact Hc.out)⟩
      have HOY : Aside0 (∀ w, Below W.heap.size W w → Calls Try.prog 14 #[.agg LY.toArray] w fun e w' => e = .returned (.bool ey) ∧ Below w.heap.size w w') := ⟨fun w hb => by rw [hLY, ← hey]; exact code_IsExt.all y A c w HYl.out (by rw [HYc.out]; exact Kd.C_below HC.out hb) (by rw [HYc.out]; exact Hc.out)⟩
      clear hyL hyl hyc hLY hey
      refine start_ (n := 13) (S := fun w' => w'.rangeAt g7 0 LY ∧ w'.rangeAt g3 0 L) (ds := []) #[false, false, false, false, false, false, false, false, false, false, false, false, false] (by kernel_rfl) rfl rfl ⟨(World.rangeAt_drew wA g7 0 LY).2 hR7, (World.rangeAt_drew wA g3 0 L).2 hR3⟩ (fun hHeld => ?_)
      refine with_tabW fieldsR.tab fieldsR.bits (fun HT_ HW_ => ?_)
      replace hR7 := hHeld.1
      replace hR3 := hHeld.2
      replace hT0 : Below W.heap.size W wA.drew := below_drew hT0
      replace hZ7 : g7 < wA.drew.heap.size := hZ7
      replace hZ3 : g3 < wA.drew.heap.size := hZ3
      generalize wA.drew = wq at hR7 hR3 hT0 hZ7 hZ3 hHeld ⊢
      refine take_ (i := 0) (N := some 62) (v := ?_) (a' := ?_) fieldsR.l0 rfl rfl (take_ofW HT_.out HW_.out (by kernel_rfl)) (fun _ _ _ h => h) (Or.inl ⟨by rfl, ?_⟩) hHeld ?_ ?_
      rotate_left
      · intro w' hs_
        refine load_runO (ty := 33) (y := .tmp 7) (g := g7) (off := 0) (L := LY) ?_ ?_ hs_.1 Try.underlying33 rfl HILY.out <;> rfl
      rotate_left
      · simp only [Act.put, List.setIfInBounds_toArray, List.set_cons_zero, List.set_cons_succ, i64_w, i32_w]
        rfl
      refine take_ (i := 2) (N := some 64) (v := ?_) (a' := ?_) fieldsR.l1 rfl rfl (take_ofW HT_.out HW_.out (by kernel_rfl)) (fun _ _ _ h => h) (Or.inl ⟨by rfl, ?_⟩) hHeld ?_ ?_
      rotate_left
      · intro w' hs_
        refine load_runO (ty := 33) (y := .tmp 7) (g := g7) (off := 0) (L := LY) ?_ ?_ hs_.1 Try.underlying33 rfl HILY.out <;> rfl
      rotate_left
      · simp only [Act.put, List.setIfInBounds_toArray, List.set_cons_zero, List.set_cons_succ, i64_w, i32_w]
        rfl
      refine one_ (i := 1) (N := some 63) fieldsR.l2 rfl rfl (one_of HT_.out (by kernel_rfl)) (by decide) (fun K hK => ?_)
      refine goes_ Try.func14 (by kernel_rfl) rfl #[.agg LY.toArray] (by rfl) rfl rfl (by (try simp only [List.map_toArray, List.map_cons, List.map_nil]); first | done | rfl) ?_
      refine (HOY.out _ hT0).mono ?_
      rintro e w5 ⟨rfl, hB5⟩
      refine ⟨_, rfl, ?_⟩
      replace hR7 := rangeAt_below hR7 hB5 hZ7
      replace hR3 := rangeAt_below hR3 hB5 hZ3
      replace hT0 := below_step hT0 hB5
      replace hZ7 := Nat.lt_of_lt_of_le hZ7 hB5.size
      replace hZ3 := Nat.lt_of_lt_of_le hZ3 hB5.size
      clear hB5
      refine hK.out _ _ ⟨hR7, hR3⟩ (fun hHeld => ?_)
      clear hK K
      refine norm_ (a' := ?_) ?_ ?_
      rotate_left
      · show Act.put _ (some 63) _ = _
        simp only [Act.put, List.setIfInBounds_toArray, List.set_cons_zero, List.set_cons_succ, i64_w, i32_w]
        rfl
      refine one_ (i := 3) (N := some 65) fieldsR.l3 rfl rfl (one_of HT_.out (by kernel_rfl)) (by decide) (fun K hK => ?_)
      refine goes_ Try.func13 (by kernel_rfl) rfl #[.agg LY.toArray] (by rfl) rfl rfl (by (try simp only [List.map_toArray, List.map_cons, List.map_nil]); first | done | rfl) ?_
      refine (HRY.out _ hT0).mono ?_
      rintro e w5 ⟨rfl, hB5⟩
      refine ⟨_, rfl, ?_⟩
      replace hR7 := rangeAt_below hR7 hB5 hZ7
      replace hR3 := rangeAt_below hR3 hB5 hZ3
      replace hT0 := below_step hT0 hB5
      replace hZ7 := Nat.lt_of_lt_of_le hZ7 hB5.size
      replace hZ3 := Nat.lt_of_lt_of_le hZ3 hB5.size
      clear hB5
      refine hK.out _ _ ⟨hR7, hR3⟩ (fun hHeld => ?_)
      clear hK K
      refine norm_ (a' := ?_) ?_ ?_
      rotate_left
      · show Act.put _ (some 65) _ = _
        simp only [Act.put, List.setIfInBounds_toArray, List.set_cons_zero, List.set_cons_succ, i64_w, i32_w]
        rfl
      refine pure_ (i := 4) (N := some 66) (v := ?_) (a' := ?_) fieldsR.l4 rfl rfl (any_of HT_.out (by kernel_rfl)) (fun _ _ _ h => h) (Or.inl ⟨by rfl, ?_⟩) ?_ ?_
      rotate_left
      · intro w'
        go_simp
        with_reducible rfl
      rotate_left
      · simp only [Act.put, List.setIfInBounds_toArray, List.set_cons_zero, List.set_cons_succ, i64_w, i32_w]
        rfl
      refine pure_ (i := 5) (N := some 67) (v := ?_) (a' := ?_) fieldsR.l5 rfl rfl (any_of HT_.out (by kernel_rfl)) (fun _ _ _ h => h) (Or.inl ⟨by rfl, ?_⟩) ?_ ?_
      rotate_left
      · intro w'
        go_simp
        with_reducible rfl
      rotate_left
      · simp only [Act.put, List.setIfInBounds_toArray, List.set_cons_zero, List.set_cons_succ, i64_w, i32_w]
        rfl
      refine take_ (i := 6) (N := some 68) (v := ?_) (a' := ?_) fieldsR.l6 rfl rfl (take_ofW HT_.out HW_.out (by kernel_rfl)) (fun _ _ _ h => h) (Or.inl ⟨by rfl, ?_⟩) hHeld ?_ ?_
      rotate_left
      · intro w' hs_
        refine load_runO (ty := 33) (y := .tmp 3) (g := g3) (off := 0) (L := L) ?_ ?_ hs_.2 Try.underlying33 rfl HIL.out <;> rfl
      rotate_left
      · simp only [Act.put, List.setIfInBounds_toArray, List.set_cons_zero, List.set_cons_succ, i64_w, i32_w]
        rfl
      refine one_ (i := 7) (N := some 69) fieldsR.l7 rfl rfl (one_of HT_.out (by kernel_rfl)) (by decide) (fun K hK => ?_)
      refine goes_ Try.func14 (by kernel_rfl) rfl #[.agg L.toArray] (by rfl) rfl rfl (by (try simp only [List.map_toArray, List.map_cons, List.map_nil]); first | done | rfl) ?_
      refine (HOX.out _ hT0).mono ?_
      rintro e w5 ⟨rfl, hB5⟩
      refine ⟨_, rfl, ?_⟩
      replace hR7 := rangeAt_below hR7 hB5 hZ7
      replace hR3 := rangeAt_below hR3 hB5 hZ3
      replace hT0 := below_step hT0 hB5
      replace hZ7 := Nat.lt_of_lt_of_le hZ7 hB5.size
      replace hZ3 := Nat.lt_of_lt_of_le hZ3 hB5.size
      clear hB5
      refine hK.out _ _ ⟨hR7, hR3⟩ (fun hHeld => ?_)
      clear hK K
      refine norm_ (a' := ?_) ?_ ?_
      rotate_left
      · show Act.put _ (some 69) _ = _
        simp only [Act.put, List.setIfInBounds_toArray, List.set_cons_zero, List.set_cons_succ, i64_w, i32_w]
        rfl
      refine pure_ (i := 8) (N := some 70) (v := ?_) (a' := ?_) fieldsR.l8 rfl rfl (any_of HT_.out (by kernel_rfl)) (fun _ _ _ h => h) (Or.inl ⟨by rfl, ?_⟩) ?_ ?_
      rotate_left
      · intro w'
        go_simp
        with_reducible rfl
      rotate_left
      · simp only [Act.put, List.setIfInBounds_toArray, List.set_cons_zero, List.set_cons_succ, i64_w, i32_w]
        rfl
      refine pure_ (i := 9) (N := some 71) (v := ?_) (a' := ?_) fieldsR.l9 rfl rfl (any_of HT_.out (by kernel_rfl)) (fun _ _ _ h => h) (Or.inl ⟨by rfl, ?_⟩) ?_ ?_
      rotate_left
      · intro w'
        go_simp
        with_reducible rfl
      rotate_left
      · simp only [Act.put, List.setIfInBounds_toArray, List.set_cons_zero, List.set_cons_succ, i64_w, i32_w]
        rfl
      refine one_ (i := 10) (N := some 72) fieldsR.l10 rfl rfl (one_of HT_.out (by kernel_rfl)) (by decide) (fun K hK => ?_)
      refine goes_ Try.func10 (by kernel_rfl) rfl #[] (by rfl) rfl rfl (by (try simp only [List.map_toArray, List.map_cons, List.map_nil]); first | done | rfl) ?_
      refine (known_calls _).mono ?_
      rintro e w5 ⟨rfl, hB5⟩
      refine ⟨_, rfl, ?_⟩
      replace hR7 := rangeAt_below hR7 hB5 hZ7
      replace hR3 := rangeAt_below hR3 hB5 hZ3
      replace hT0 := below_step hT0 hB5
      replace hZ7 := Nat.lt_of_lt_of_le hZ7 hB5.size
      replace hZ3 := Nat.lt_of_lt_of_le hZ3 hB5.size
      clear hB5
      refine hK.out _ _ ⟨hR7, hR3⟩ (fun hHeld => ?_)
      clear hK K
      refine norm_ (a' := ?_) ?_ ?_
      rotate_left
      · show Act.put _ (some 72) _ = _
        simp only [Act.put, List.setIfInBounds_toArray, List.set_cons_zero, List.set_cons_succ, i64_w, i32_w]
        rfl
      refine pure_ (i := 11) (N := some 73) (v := ?_) (a' := ?_) fieldsR.l11 rfl rfl (any_of HT_.out (by kernel_rfl)) (fun _ _ _ h => h) (Or.inl ⟨by rfl, ?_⟩) ?_ ?_
      rotate_left
      · intro w'
        go_simp
        with_reducible rfl
      rotate_left
      · simp only [Act.put, List.setIfInBounds_toArray, List.set_cons_zero, List.set_cons_succ, i64_w, i32_w]
        rfl
      refine pure_ (i := 12) (N := some 6) (v := ?_) (a' := ?_) fieldsR.l12 rfl rfl (any_of HT_.out (by kernel_rfl)) (fun _ _ _ h => h) (Or.inl ⟨by rfl, ?_⟩) ?_ ?_
      rotate_left
      · intro w'
        go_simp
        with_reducible rfl
      rotate_left
      · simp only [Act.put, List.setIfInBounds_toArray, List.set_cons_zero, List.set_cons_succ, i64_w, i32_w]
        rfl
      refine done_ (done_of HT_.out (by kernel_rfl)) ?_
      clear HT_ HW_ hHeld
      go_wp2
      all_goals go_ret
      all_goals exact ⟨by simp, hT0⟩
    · have p_ := LB.out.cell (i := 5) (v := .int .i64 x.track) (by rw [HL.out]; rfl)
      have q_ := LB.out.frozen 5 (by rw [HLl.out]; decide)
      go_upto_region 16 with (fail)
      have n0_ := LB.out.set 5 (by rw [HLl.out]; decide) (.int .i64 n)
      have hb_ := hT0.setCell (p := ⟨g7, 5, none⟩) hn7 (.int .i64 n)
      have hr_ := far_range hR3 ne37 5 (.int .i64 n)
      clear p_ q_
      replace hT0 := hb_
      replace hR3 := hr_
      clear hb_ hr_
      replace hZ7 : g7 < (wB.setCell ⟨g7, 5, none⟩ (.int .i64 n)).heap.size := by rw [World.size_setCell]; exact hZ7
      replace hZ3 : g3 < (wB.setCell ⟨g7, 5, none⟩ (.int .i64 n)).heap.size := by rw [World.size_setCell]; exact hZ3
      generalize World.setCell _ _ _ = wA at n0_ hT0 hR3 hZ7 hZ3 ⊢
      obtain ⟨y, hyl, hyc, hyL⟩ : ∃ y : Ext, y.sum.length = 32 ∧ y.call = x.call ∧ Lies wA g7 (y.cells A c) := ⟨{ x with track := n }, Hx.out, rfl, by rw [HL.out] at n0_; exact n0_⟩
      clear n0_
      have HYL := Aside0.mk hyL
      have HYl := Aside0.mk hyl
      have HYc := Aside0.mk hyc
      have hR7 := hyL.range
      obtain ⟨LY, hLY⟩ : ∃ LY, LY = y.cells A c := ⟨_, rfl⟩
      rw [← hLY] at hR7
      have HILY : Aside0 ((Try.prog.info? 33).map (·.size) = some LY.length) := ⟨by rw [hLY, Ext.cells_length _ _ _ hyl]; exact info_ext'⟩
      obtain ⟨ey, hey⟩ : ∃ b, isExtP y = b := ⟨_, rfl⟩
      have HRY : Aside0 (∀ w, Below W.heap.size W w → Calls Try.prog 13 #[.agg LY.toArray] w fun e w' => e = .returned (.bool ey) ∧ Below w.heap.size w w') := ⟨fun w hb => by rw [hLY, ← hey]; exact althingref7_IsExt.all y A c w HYl.out (by rw [HYc.out]; exact Kd.C_below HC.out hb) (by rw [HYc.out]; exact Hc.out)⟩
      have HOY : Aside0 (∀ w, Below W.heap.size W w → Calls Try.prog 14 #[.agg LY.toArray] w fun e w' => e = .returned (.bool ey) ∧ Below w.heap.size w w') := ⟨fun w hb => by rw [hLY, ← hey]; exact code_IsExt.all y A c w HYl.out (by rw [HYc.out]; exact Kd.C_below HC.out hb) (by rw [HYc.out]; exact Hc.out)⟩
      clear hyL hyl hyc hLY hey
      refine start_ (n := 13) (S := fun w' => w'.rangeAt g7 0 LY ∧ w'.rangeAt g3 0 L) (ds := []) #[false, false, false, false, false, false, false, false, false, false, false, false, false] (by kernel_rfl) rfl rfl ⟨(World.rangeAt_drew wA g7 0 LY).2 hR7, (World.rangeAt_drew wA g3 0 L).2 hR3⟩ (fun hHeld => ?_)
      refine with_tabW fieldsR.tab fieldsR.bits (fun HT_ HW_ => ?_)
      replace hR7 := hHeld.1
      replace hR3 := hHeld.2
      replace hT0 : Below W.heap.size W wA.drew := below_drew hT0
      replace hZ7 : g7 < wA.drew.heap.size := hZ7
      replace hZ3 : g3 < wA.drew.heap.size := hZ3
      generalize wA.drew = wq at hR7 hR3 hT0 hZ7 hZ3 hHeld ⊢
      refine take_ (i := 0) (N := some 62) (v := ?_) (a' := ?_) fieldsR.l0 rfl rfl (take_ofW HT_.out HW_.out (by kernel_rfl)) (fun _ _ _ h => h) (Or.inl ⟨by rfl, ?_⟩) hHeld ?_ ?_
      rotate_left
      · intro w' hs_
        refine load_runO (ty := 33) (y := .tmp 7) (g := g7) (off := 0) (L := LY) ?_ ?_ hs_.1 Try.underlying33 rfl HILY.out <;> rfl
      rotate_left
      · simp only [Act.put, List.setIfInBounds_toArray, List.set_cons_zero, List.set_cons_succ, i64_w, i32_w]
        rfl
      refine take_ (i := 2) (N := some 64) (v := ?_) (a' := ?_) fieldsR.l1 rfl rfl (take_ofW HT_.out HW_.out (by kernel_rfl)) (fun _ _ _ h => h) (Or.inl ⟨by rfl, ?_⟩) hHeld ?_ ?_
      rotate_left
      · intro w' hs_
        refine load_runO (ty := 33) (y := .tmp 7) (g := g7) (off := 0) (L := LY) ?_ ?_ hs_.1 Try.underlying33 rfl HILY.out <;> rfl
      rotate_left
      · simp only [Act.put, List.setIfInBounds_toArray, List.set_cons_zero, List.set_cons_succ, i64_w, i32_w]
        rfl
      refine one_ (i := 1) (N := some 63) fieldsR.l2 rfl rfl (one_of HT_.out (by kernel_rfl)) (by decide) (fun K hK => ?_)
      refine goes_ Try.func14 (by kernel_rfl) rfl #[.agg LY.toArray] (by rfl) rfl rfl (by (try simp only [List.map_toArray, List.map_cons, List.map_nil]); first | done | rfl) ?_
      refine (HOY.out _ hT0).mono ?_
      rintro e w5 ⟨rfl, hB5⟩
      refine ⟨_, rfl, ?_⟩
      replace hR7 := rangeAt_below hR7 hB5 hZ7
      replace hR3 := rangeAt_below hR3 hB5 hZ3
      replace hT0 := below_step hT0 hB5
      replace hZ7 := Nat.lt_of_lt_of_le hZ7 hB5.size
      replace hZ3 := Nat.lt_of_lt_of_le hZ3 hB5.size
      clear hB5
      refine hK.out _ _ ⟨hR7, hR3⟩ (fun hHeld => ?_)
      clear hK K
      refine norm_ (a' := ?_) ?_ ?_
      rotate_left
      · show Act.put _ (some 63) _ = _
        simp only [Act.put, List.setIfInBounds_toArray, List.set_cons_zero, List.set_cons_succ, i64_w, i32_w]
        rfl
      refine one_ (i := 3) (N := some 65) fieldsR.l3 rfl rfl (one_of HT_.out (by kernel_rfl)) (by decide) (fun K hK => ?_)
      refine goes_ Try.func13 (by kernel_rfl) rfl #[.agg LY.toArray] (by rfl) rfl rfl (by (try simp only [List.map_toArray, List.map_cons, List.map_nil]); first | done | rfl) ?_
      refine (HRY.out _ hT0).mono ?_
      rintro e w5 ⟨rfl, hB5⟩
      refine ⟨_, rfl, ?_⟩
      replace hR7 := rangeAt_below hR7 hB5 hZ7
      replace hR3 := rangeAt_below hR3 hB5 hZ3
      replace hT0 := below_step hT0 hB5
      replace hZ7 := Nat.lt_of_lt_of_le hZ7 hB5.size
      replace hZ3 := Nat.lt_of_lt_of_le hZ3 hB5.size
      clear hB5
      refine hK.out _ _ ⟨hR7, hR3⟩ (fun hHeld => ?_)
      clear hK K
      refine norm_ (a' := ?_) ?_ ?_
      rotate_left
      · show Act.put _ (some 65) _ = _
        simp only [Act.put, List.setIfInBounds_toArray, List.set_cons_zero, List.set_cons_succ, i64_w, i32_w]
        rfl
      refine pure_ (i := 4) (N := some 66) (v := ?_) (a' := ?_) fieldsR.l4 rfl rfl (any_of HT_.out (by kernel_rfl)) (fun _ _ _ h => h) (Or.inl ⟨by rfl, ?_⟩) ?_ ?_
      rotate_left
      · intro w'
        go_simp
        with_reducible rfl
      rotate_left
      · simp only [Act.put, List.setIfInBounds_toArray, List.set_cons_zero, List.set_cons_succ, i64_w, i32_w]
        rfl
      refine pure_ (i := 5) (N := some 67) (v := ?_) (a' := ?_) fieldsR.l5 rfl rfl (any_of HT_.out (by kernel_rfl)) (fun _ _ _ h => h) (Or.inl ⟨by rfl, ?_⟩) ?_ ?_
      rotate_left
      · intro w'
        go_simp
        with_reducible rfl
      rotate_left
      · simp only [Act.put, List.setIfInBounds_toArray, List.set_cons_zero, List.set_cons_succ, i64_w, i32_w]
        rfl
      refine take_ (i := 6) (N := some 68) (v := ?_) (a' := ?_) fieldsR.l6 rfl rfl (take_ofW HT_.out HW_.out (by kernel_rfl)) (fun _ _ _ h => h) (Or.inl ⟨by rfl, ?_⟩) hHeld ?_ ?_
      rotate_left
      · intro w' hs_
        refine load_runO (ty := 33) (y := .tmp 3) (g := g3) (off := 0) (L := L) ?_ ?_ hs_.2 Try.underlying33 rfl HIL.out <;> rfl
      rotate_left
      · simp only [Act.put, List.setIfInBounds_toArray, List.set_cons_zero, List.set_cons_succ, i64_w, i32_w]
        rfl
      refine one_ (i := 7) (N := some 69) fieldsR.l7 rfl rfl (one_of HT_.out (by kernel_rfl)) (by decide) (fun K hK => ?_)
      refine goes_ Try.func14 (by kernel_rfl) rfl #[.agg L.toArray] (by rfl) rfl rfl (by (try simp only [List.map_toArray, List.map_cons, List.map_nil]); first | done | rfl) ?_
      refine (HOX.out _ hT0).mono ?_
      rintro e w5 ⟨rfl, hB5⟩
      refine ⟨_, rfl, ?_⟩
      replace hR7 := rangeAt_below hR7 hB5 hZ7
      replace hR3 := rangeAt_below hR3 hB5 hZ3
      replace hT0 := below_step hT0 hB5
      replace hZ7 := Nat.lt_of_lt_of_le hZ7 hB5.size
      replace hZ3 := Nat.lt_of_lt_of_le hZ3 hB5.size
      clear hB5
      refine hK.out _ _ ⟨hR7, hR3⟩ (fun hHeld => ?_)
      clear hK K
      refine norm_ (a' := ?_) ?_ ?_
      rotate_left
      · show Act.put _ (some 69) _ = _
        simp only [Act.put, List.setIfInBounds_toArray, List.set_cons_zero, List.set_cons_succ, i64_w, i32_w]
        rfl
      refine pure_ (i := 8) (N := some 70) (v := ?_) (a' := ?_) fieldsR.l8 rfl rfl (any_of HT_.out (by kernel_rfl)) (fun _ _ _ h => h) (Or.inl ⟨by rfl, ?_⟩) ?_ ?_
      rotate_left
      · intro w'
        go_simp
        with_reducible rfl
      rotate_left
      · simp only [Act.put, List.setIfInBounds_toArray, List.set_cons_zero, List.set_cons_succ, i64_w, i32_w]
        rfl
      refine pure_ (i := 9) (N := some 71) (v := ?_) (a' := ?_) fieldsR.l9 rfl rfl (any_of HT_.out (by kernel_rfl)) (fun _ _ _ h => h) (Or.inl ⟨by rfl, ?_⟩) ?_ ?_
      rotate_left
      · intro w'
        go_simp
        with_reducible rfl
      rotate_left
      · simp only [Act.put, List.setIfInBounds_toArray, List.set_cons_zero, List.set_cons_succ, i64_w, i32_w]
        rfl
      refine one_ (i := 10) (N := some 72) fieldsR.l10 rfl rfl (one_of HT_.out (by kernel_rfl)) (by decide) (fun K hK => ?_)
      refine goes_ Try.func10 (by kernel_rfl) rfl #[] (by rfl) rfl rfl (by (try simp only [List.map_toArray, List.map_cons, List.map_nil]); first | done | rfl) ?_
      refine (known_calls _).mono ?_
      rintro e w5 ⟨rfl, hB5⟩
      refine ⟨_, rfl, ?_⟩
      replace hR7 := rangeAt_below hR7 hB5 hZ7
      replace hR3 := rangeAt_below hR3 hB5 hZ3
      replace hT0 := below_step hT0 hB5
      replace hZ7 := Nat.lt_of_lt_of_le hZ7 hB5.size
      replace hZ3 := Nat.lt_of_lt_of_le hZ3 hB5.size
      clear hB5
      refine hK.out _ _ ⟨hR7, hR3⟩ (fun hHeld => ?_)
      clear hK K
      refine norm_ (a' := ?_) ?_ ?_
      rotate_left
      · show Act.put _ (some 72) _ = _
        simp only [Act.put, List.setIfInBounds_toArray, List.set_cons_zero, List.set_cons_succ, i64_w, i32_w]
        rfl
      refine pure_ (i := 11) (N := some 73) (v := ?_) (a' := ?_) fieldsR.l11 rfl rfl (any_of HT_.out (by kernel_rfl)) (fun _ _ _ h => h) (Or.inl ⟨by rfl, ?_⟩) ?_ ?_
      rotate_left
      · intro w'
        go_simp
        with_reducible rfl
      rotate_left
      · simp only [Act.put, List.setIfInBounds_toArray, List.set_cons_zero, List.set_cons_succ, i64_w, i32_w]
        rfl
      refine pure_ (i := 12) (N := some 6) (v := ?_) (a' := ?_) fieldsR.l12 rfl rfl (any_of HT_.out (by kernel_rfl)) (fun _ _ _ h => h) (Or.inl ⟨by rfl, ?_⟩) ?_ ?_
      rotate_left
      · intro w'
        go_simp
        with_reducible rfl
      rotate_left
      · simp only [Act.put, List.setIfInBounds_toArray, List.set_cons_zero, List.set_cons_succ, i64_w, i32_w]
        rfl
      refine done_ (done_of HT_.out (by kernel_rfl)) ?_
      clear HT_ HW_ hHeld
      go_wp2
      all_goals go_ret
      all_goals exact ⟨by simp, hT0⟩
    · have p_ := LB.out.cell (i := 6) (v := .int .i64 x.level) (by rw [HL.out]; rfl)
      have q_ := LB.out.frozen 6 (by rw [HLl.out]; decide)
      go_upto_region 16 with (fail)
      have n0_ := LB.out.set 6 (by rw [HLl.out]; decide) (.int .i64 n)
      have hb_ := hT0.setCell (p := ⟨g7, 6, none⟩) hn7 (.int .i64 n)
      have hr_ := far_range hR3 ne37 6 (.int .i64 n)
      clear p_ q_
      replace hT0 := hb_
      replace hR3 := hr_
      clear hb_ hr_
      replace hZ7 : g7 < (wB.setCell ⟨g7, 6, none⟩ (.int .i64 n)).heap.size := by rw [World.size_setCell]; exact hZ7
      replace hZ3 : g3 < (wB.setCell ⟨g7, 6, none⟩ (.int .i64 n)).heap.size := by rw [World.size_setCell]; exact hZ3
      generalize World.setCell _ _ _ = wA at n0_ hT0 hR3 hZ7 hZ3 ⊢
      obtain ⟨y, hyl, hyc, hyL⟩ : ∃ y : Ext, y.sum.length = 32 ∧ y.call = x.call ∧ Lies wA g7 (y.cells A c) := ⟨{ x with level := n }, Hx.out, rfl, by rw [HL.out] at n0_; exact n0_⟩
      clear n0_
      have HYL := Aside0.mk hyL
      have HYl := Aside0.mk hyl
      have HYc := Aside0.mk hyc
      have hR7 := hyL.range
      obtain ⟨LY, hLY⟩ : ∃ LY, LY = y.cells A c := ⟨_, rfl⟩
      rw [← hLY] at hR7
      have HILY : Aside0 ((Try.prog.info? 33).map (·.size) = some LY.length) := ⟨by rw [hLY, Ext.cells_length _ _ _ hyl]; exact info_ext'⟩
      obtain ⟨ey, hey⟩ : ∃ b, isExtP y = b := ⟨_, rfl⟩
      have HRY : Aside0 (∀ w, Below W.heap.size W w → Calls Try.prog 13 #[.agg LY.toArray] w fun e w' => e = .returned (.bool ey) ∧ Below w.heap.size w w') := ⟨fun w hb => by rw [hLY, ← hey]; exact althingref7_IsExt.all y A c w HYl.out (by rw [HYc.out]; exact Kd.C_below HC.out hb) (by rw [HYc.out]; exact Hc.out)⟩
      have HOY : Aside0 (∀ w, Below W.heap.size W w → Calls Try.prog 14 #[.agg LY.toArray] w fun e w' => e = .returned (.bool ey) ∧ Below w.heap.size w w') := ⟨fun w hb => by rw [hLY, ← hey]; exact code_IsExt.all y A c w HYl.out (by rw [HYc.out]; exact Kd.C_below HC.out hb) (by rw [HYc.out]; exact Hc.out)⟩
      clear hyL hyl hyc hLY hey
      refine start_ (n := 13) (S := fun w' => w'.rangeAt g7 0 LY ∧ w'.rangeAt g3 0 L) (ds := []) #[false, false, false, false, false, false, false, false, false, false, false, false, false] (by kernel_rfl) rfl rfl ⟨(World.rangeAt_drew wA g7 0 LY).2 hR7, (World.rangeAt_drew wA g3 0 L).2 hR3⟩ (fun hHeld => ?_)
      refine with_tabW fieldsR.tab fieldsR.bits (fun HT_ HW_ => ?_)
      replace hR7 := hHeld.1
      replace hR3 := hHeld.2
      replace hT0 : Below W.heap.size W wA.drew := below_drew hT0
      replace hZ7 : g7 < wA.drew.heap.size := hZ7
      replace hZ3 : g3 < wA.drew.heap.size := hZ3
      generalize wA.drew = wq at hR7 hR3 hT0 hZ7 hZ3 hHeld ⊢
      refine take_ (i := 0) (N := some 62) (v := ?_) (a' := ?_) fieldsR.l0 rfl rfl (take_ofW HT_.out HW_.out (by kernel_rfl)) (fun _ _ _ h => h) (Or.inl ⟨by rfl, ?_⟩) hHeld ?_ ?_
      rotate_left
      · intro w' hs_
        refine load_runO (ty := 33) (y := .tmp 7) (g := g7) (off := 0) (L := LY) ?_ ?_ hs_.1 Try.underlying33 rfl HILY.out <;> rfl
      rotate_left
      · simp only [Act.put, List.setIfInBounds_toArray, List.set_cons_zero, List.set_cons_succ, i64_w, i32_w]
        rfl
      refine take_ (i := 2) (N := some 64) (v := ?_) (a' := ?_) fieldsR.l1 rfl rfl (take_ofW HT_.out HW_.out (by kernel_rfl)) (fun _ _ _ h => h) (Or.inl ⟨by rfl, ?_⟩) hHeld ?_ ?_
      rotate_left
      · intro w' hs_
        refine load_runO (ty := 33) (y := .tmp 7) (g := g7) (off := 0) (L := LY) ?_ ?_ hs_.1 Try.underlying33 rfl HILY.out <;> rfl
      rotate_left
      · simp only [Act.put, List.setIfInBounds_toArray, List.set_cons_zero, List.set_cons_succ, i64_w, i32_w]
        rfl
      refine one_ (i := 1) (N := some 63) fieldsR.l2 rfl rfl (one_of HT_.out (by kernel_rfl)) (by decide) (fun K hK => ?_)
      refine goes_ Try.func14 (by kernel_rfl) rfl #[.agg LY.toArray] (by rfl) rfl rfl (by (try simp only [List.map_toArray, List.map_cons, List.map_nil]); first | done | rfl) ?_
      refine (HOY.out _ hT0).mono ?_
      rintro e w5 ⟨rfl, hB5⟩
      refine ⟨_, rfl, ?_⟩
      replace hR7 := rangeAt_below hR7 hB5 hZ7
      replace hR3 := rangeAt_below hR3 hB5 hZ3
      replace hT0 := below_step hT0 hB5
      replace hZ7 := Nat.lt_of_lt_of_le hZ7 hB5.size
      replace hZ3 := Nat.lt_of_lt_of_le hZ3 hB5.size
      clear hB5
      refine hK.out _ _ ⟨hR7, hR3⟩ (fun hHeld => ?_)
      clear hK K
      refine norm_ (a' := ?_) ?_ ?_
      rotate_left
      · show Act.put _ (some 63) _ = _
        simp only [Act.put, List.setIfInBounds_toArray, List.set_cons_zero, List.set_cons_succ, i64_w, i32_w]
        rfl
      refine one_ (i := 3) (N := some 65) fieldsR.l3 rfl rfl (one_of HT_.out (by kernel_rfl)) (by decide) (fun K hK => ?_)
      refine goes_ Try.func13 (by kernel_rfl) rfl #[.agg LY.toArray] (by rfl) rfl rfl (by (try simp only [List.map_toArray, List.map_cons, List.map_nil]); first | done | rfl) ?_
      refine (HRY.out _ hT0).mono ?_
      rintro e w5 ⟨rfl, hB5⟩
      refine ⟨_, rfl, ?_⟩
      replace hR7 := rangeAt_below hR7 hB5 hZ7
      replace hR3 := rangeAt_below hR3 hB5 hZ3
      replace hT0 := below_step hT0 hB5
      replace hZ7 := Nat.lt_of_lt_of_le hZ7 hB5.size
      replace hZ3 := Nat.lt_of_lt_of_le hZ3 hB5.size
      clear hB5
      refine hK.out _ _ ⟨hR7, hR3⟩ (fun hHeld => ?_)
      clear hK K
      refine norm_ (a' := ?_) ?_ ?_
      rotate_left
      · show Act.put _ (some 65) _ = _
        simp only [Act.put, List.setIfInBounds_toArray, List.set_cons_zero, List.set_cons_succ, i64_w, i32_w]
        rfl
      refine pure_ (i := 4) (N := some 66) (v := ?_) (a' := ?_) fieldsR.l4 rfl rfl (any_of HT_.out (by kernel_rfl)) (fun _ _ _ h => h) (Or.inl ⟨by rfl, ?_⟩) ?_ ?_
      rotate_left
      · intro w'
        go_simp
        with_reducible rfl
      rotate_left
      · simp only [Act.put, List.setIfInBounds_toArray, List.set_cons_zero, List.set_cons_succ, i64_w, i32_w]
        rfl
      refine pure_ (i := 5) (N := some 67) (v := ?_) (a' := ?_) fieldsR.l5 rfl rfl (any_of HT_.out (by kernel_rfl)) (fun _ _ _ h => h) (Or.inl ⟨by rfl, ?_⟩) ?_ ?_
      rotate_left
      · intro w'
        go_simp
        with_reducible rfl
      rotate_left
      · simp only [Act.put, List.setIfInBounds_toArray, List.set_cons_zero, List.set_cons_succ, i64_w, i32_w]
        rfl
      refine take_ (i := 6) (N := some 68) (v := ?_) (a' := ?_) fieldsR.l6 rfl rfl (take_ofW HT_.out HW_.out (by kernel_rfl)) (fun _ _ _ h => h) (Or.inl ⟨by rfl, ?_⟩) hHeld ?_ ?_
      rotate_left
      · intro w' hs_
        refine load_runO (ty := 33) (y := .tmp 3) (g := g3) (off := 0) (L := L) ?_ ?_ hs_.2 Try.underlying33 rfl HIL.out <;> rfl
      rotate_left
      · simp only [Act.put, List.setIfInBounds_toArray, List.set_cons_zero, List.set_cons_succ, i64_w, i32_w]
        rfl
      refine one_ (i := 7) (N := some 69) fieldsR.l7 rfl rfl (one_of HT_.out (by kernel_rfl)) (by decide) (fun K hK => ?_)
      refine goes_ Try.func14 (by kernel_rfl) rfl #[.agg L.toArray] (by rfl) rfl rfl (by (try simp only [List.map_toArray, List.map_cons, List.map_nil]); first | done | rfl) ?_
      refine (HOX.out _ hT0).mono ?_
      rintro e w5 ⟨rfl, hB5⟩
      refine ⟨_, rfl, ?_⟩
      replace hR7 := rangeAt_below hR7 hB5 hZ7
      replace hR3 := rangeAt_below hR3 hB5 hZ3
      replace hT0 := below_step hT0 hB5
      replace hZ7 := Nat.lt_of_lt_of_le hZ7 hB5.size
      replace hZ3 := Nat.lt_of_lt_of_le hZ3 hB5.size
      clear hB5
      refine hK.out _ _ ⟨hR7, hR3⟩ (fun hHeld => ?_)
      clear hK K
      refine norm_ (a' := ?_) ?_ ?_
      rotate_left
      · show Act.put _ (some 69) _ = _
        simp only [Act.put, List.setIfInBounds_toArray, List.set_cons_zero, List.set_cons_succ, i64_w, i32_w]
        rfl
      refine pure_ (i := 8) (N := some 70) (v := ?_) (a' := ?_) fieldsR.l8 rfl rfl (any_of HT_.out (by kernel_rfl)) (fun _ _ _ h => h) (Or.inl ⟨by rfl, ?_⟩) ?_ ?_
      rotate_left
      · intro w'
        go_simp
        with_reducible rfl
      rotate_left
      · simp only [Act.put, List.setIfInBounds_toArray, List.set_cons_zero, List.set_cons_succ, i64_w, i32_w]
        rfl
      refine pure_ (i := 9) (N := some 71) (v := ?_) (a' := ?_) fieldsR.l9 rfl rfl (any_of HT_.out (by kernel_rfl)) (fun _ _ _ h => h) (Or.inl ⟨by rfl, ?_⟩) ?_ ?_
      rotate_left
      · intro w'
        go_simp
        with_reducible rfl
      rotate_left
      · simp only [Act.put, List.setIfInBounds_toArray, List.set_cons_zero, List.set_cons_succ, i64_w, i32_w]
        rfl
      refine one_ (i := 10) (N := some 72) fieldsR.l10 rfl rfl (one_of HT_.out (by kernel_rfl)) (by decide) (fun K hK => ?_)
      refine goes_ Try.func10 (by kernel_rfl) rfl #[] (by rfl) rfl rfl (by (try simp only [List.map_toArray, List.map_cons, List.map_nil]); first | done | rfl) ?_
      refine (known_calls _).mono ?_
      rintro e w5 ⟨rfl, hB5⟩
      refine ⟨_, rfl, ?_⟩
      replace hR7 := rangeAt_below hR7 hB5 hZ7
      replace hR3 := rangeAt_below hR3 hB5 hZ3
      replace hT0 := below_step hT0 hB5
      replace hZ7 := Nat.lt_of_lt_of_le hZ7 hB5.size
      replace hZ3 := Nat.lt_of_lt_of_le hZ3 hB5.size
      clear hB5
      refine hK.out _ _ ⟨hR7, hR3⟩ (fun hHeld => ?_)
      clear hK K
      refine norm_ (a' := ?_) ?_ ?_
      rotate_left
      · show Act.put _ (some 72) _ = _
        simp only [Act.put, List.setIfInBounds_toArray, List.set_cons_zero, List.set_cons_succ, i64_w, i32_w]
        rfl
      refine pure_ (i := 11) (N := some 73) (v := ?_) (a' := ?_) fieldsR.l11 rfl rfl (any_of HT_.out (by kernel_rfl)) (fun _ _ _ h => h) (Or.inl ⟨by rfl, ?_⟩) ?_ ?_
      rotate_left
      · intro w'
        go_simp
        with_reducible rfl
      rotate_left
      · simp only [Act.put, List.setIfInBounds_toArray, List.set_cons_zero, List.set_cons_succ, i64_w, i32_w]
        rfl
      refine pure_ (i := 12) (N := some 6) (v := ?_) (a' := ?_) fieldsR.l12 rfl rfl (any_of HT_.out (by kernel_rfl)) (fun _ _ _ h => h) (Or.inl ⟨by rfl, ?_⟩) ?_ ?_
      rotate_left
      · intro w'
        go_simp
        with_reducible rfl
      rotate_left
      · simp only [Act.put, List.setIfInBounds_toArray, List.set_cons_zero, List.set_cons_succ, i64_w, i32_w]
        rfl
      refine done_ (done_of HT_.out (by kernel_rfl)) ?_
      clear HT_ HW_ hHeld
      go_wp2
      all_goals go_ret
      all_goals exact ⟨by simp, hT0⟩
    · obtain ⟨b, hb⟩ : ∃ b, x.sum[n.toNat]? = some b := ⟨_, List.getElem?_eq_getElem (by have := HN3.out; have := Hx.out; omega)⟩
      have hlt : n.toNat < 32 := by have := HN3.out; omega
      have hLat : L[7 + n.toNat]? = some (cell b) := by
        rw [HL.out]; unfold Ext.cells
        rw [List.getElem?_append_right (by simp), List.getElem?_append_left (by simp; rw [Hx.out]; omega)]
        simp [hb]
      have p_ := LB.out.cell hLat
      have q_ := LB.out.frozen (7 + n.toNat) (by rw [HLl.out]; omega)
      obtain ⟨bi, hbi⟩ : ∃ bi : Int, bi = (b.toNat : Int) := ⟨_, rfl⟩
      obtain ⟨vx, hvx⟩ : ∃ v, Go.bits .xor .u8 bi 1 = v := ⟨_, rfl⟩
      have hv0 : 0 ≤ vx := by rw [← hvx]; exact bits_lo_u8 _ _ _
      have hv1 : vx ≤ 255 := by rw [← hvx]; exact bits_hi_u8 _ _ _
      rw [show cell b = .int .u8 bi by rw [hbi]; rfl] at p_
      have n0' : 0 ≤ n := by have := HN3.out; omega
      have n1' : n < 32 := by have := HN3.out; omega
      have HBI := Aside0.mk hbi
      clear hbi
      go_upto_region 16 with (fail)
      have n0_ := LB.out.set (7 + n.toNat) (by rw [HLl.out]; omega) (.int .u8 vx)
      have hb_ := hT0.setCell (p := ⟨g7, 7 + n.toNat, none⟩) hn7 (.int .u8 vx)
      have hr_ := far_range hR3 ne37 (7 + n.toNat) (.int .u8 vx)
      clear p_ q_
      replace hT0 := hb_
      replace hR3 := hr_
      clear hb_ hr_
      replace hZ7 : g7 < (wB.setCell ⟨g7, 7 + n.toNat, none⟩ (.int .u8 vx)).heap.size := by rw [World.size_setCell]; exact hZ7
      replace hZ3 : g3 < (wB.setCell ⟨g7, 7 + n.toNat, none⟩ (.int .u8 vx)).heap.size := by rw [World.size_setCell]; exact hZ3
      generalize World.setCell _ _ _ = wA at n0_ hT0 hR3 hZ7 hZ3 ⊢
      obtain ⟨y, hyl, hyc, hyL⟩ : ∃ y : Ext, y.sum.length = 32 ∧ y.call = x.call ∧ Lies wA g7 (y.cells A c) := ⟨{ x with sum := x.sum.set n.toNat (UInt8.ofNat vx.toNat) }, by rw [List.length_set]; exact Hx.out, rfl, by
        rw [HL.out, cells_set_sum x A c n.toNat vx Hx.out hlt hv0 hv1] at n0_; exact n0_⟩
      clear n0_ hb hlt hLat hvx hv0 hv1 n0' n1'
      have HYL := Aside0.mk hyL
      have HYl := Aside0.mk hyl
      have HYc := Aside0.mk hyc
      have hR7 := hyL.range
      obtain ⟨LY, hLY⟩ : ∃ LY, LY = y.cells A c := ⟨_, rfl⟩
      rw [← hLY] at hR7
      have HILY : Aside0 ((Try.prog.info? 33).map (·.size) = some LY.length) := ⟨by rw [hLY, Ext.cells_length _ _ _ hyl]; exact info_ext'⟩
      obtain ⟨ey, hey⟩ : ∃ b, isExtP y = b := ⟨_, rfl⟩
      have HRY : Aside0 (∀ w, Below W.heap.size W w → Calls Try.prog 13 #[.agg LY.toArray] w fun e w' => e = .returned (.bool ey) ∧ Below w.heap.size w w') := ⟨fun w hb => by rw [hLY, ← hey]; exact althingref7_IsExt.all y A c w HYl.out (by rw [HYc.out]; exact Kd.C_below HC.out hb) (by rw [HYc.out]; exact Hc.out)⟩
      have HOY : Aside0 (∀ w, Below W.heap.size W w → Calls Try.prog 14 #[.agg LY.toArray] w fun e w' => e = .returned (.bool ey) ∧ Below w.heap.size w w') := ⟨fun w hb => by rw [hLY, ← hey]; exact code_IsExt.all y A c w HYl.out (by rw [HYc.out]; exact Kd.C_below HC.out hb) (by rw [HYc.out]; exact Hc.out)⟩
      clear hyL hyl hyc hLY hey
      refine start_ (n := 13) (S := fun w' => w'.rangeAt g7 0 LY ∧ w'.rangeAt g3 0 L) (ds := []) #[false, false, false, false, false, false, false, false, false, false, false, false, false] (by kernel_rfl) rfl rfl ⟨(World.rangeAt_drew wA g7 0 LY).2 hR7, (World.rangeAt_drew wA g3 0 L).2 hR3⟩ (fun hHeld => ?_)
      refine with_tabW fieldsR.tab fieldsR.bits (fun HT_ HW_ => ?_)
      replace hR7 := hHeld.1
      replace hR3 := hHeld.2
      replace hT0 : Below W.heap.size W wA.drew := below_drew hT0
      replace hZ7 : g7 < wA.drew.heap.size := hZ7
      replace hZ3 : g3 < wA.drew.heap.size := hZ3
      generalize wA.drew = wq at hR7 hR3 hT0 hZ7 hZ3 hHeld ⊢
      refine take_ (i := 0) (N := some 62) (v := ?_) (a' := ?_) fieldsR.l0 rfl rfl (take_ofW HT_.out HW_.out (by kernel_rfl)) (fun _ _ _ h => h) (Or.inl ⟨by rfl, ?_⟩) hHeld ?_ ?_
      rotate_left
      · intro w' hs_
        refine load_runO (ty := 33) (y := .tmp 7) (g := g7) (off := 0) (L := LY) ?_ ?_ hs_.1 Try.underlying33 rfl HILY.out <;> rfl
      rotate_left
      · simp only [Act.put, List.setIfInBounds_toArray, List.set_cons_zero, List.set_cons_succ, i64_w, i32_w]
        rfl
      refine take_ (i := 2) (N := some 64) (v := ?_) (a' := ?_) fieldsR.l1 rfl rfl (take_ofW HT_.out HW_.out (by kernel_rfl)) (fun _ _ _ h => h) (Or.inl ⟨by rfl, ?_⟩) hHeld ?_ ?_
      rotate_left
      · intro w' hs_
        refine load_runO (ty := 33) (y := .tmp 7) (g := g7) (off := 0) (L := LY) ?_ ?_ hs_.1 Try.underlying33 rfl HILY.out <;> rfl
      rotate_left
      · simp only [Act.put, List.setIfInBounds_toArray, List.set_cons_zero, List.set_cons_succ, i64_w, i32_w]
        rfl
      refine one_ (i := 1) (N := some 63) fieldsR.l2 rfl rfl (one_of HT_.out (by kernel_rfl)) (by decide) (fun K hK => ?_)
      refine goes_ Try.func14 (by kernel_rfl) rfl #[.agg LY.toArray] (by rfl) rfl rfl (by (try simp only [List.map_toArray, List.map_cons, List.map_nil]); first | done | rfl) ?_
      refine (HOY.out _ hT0).mono ?_
      rintro e w5 ⟨rfl, hB5⟩
      refine ⟨_, rfl, ?_⟩
      replace hR7 := rangeAt_below hR7 hB5 hZ7
      replace hR3 := rangeAt_below hR3 hB5 hZ3
      replace hT0 := below_step hT0 hB5
      replace hZ7 := Nat.lt_of_lt_of_le hZ7 hB5.size
      replace hZ3 := Nat.lt_of_lt_of_le hZ3 hB5.size
      clear hB5
      refine hK.out _ _ ⟨hR7, hR3⟩ (fun hHeld => ?_)
      clear hK K
      refine norm_ (a' := ?_) ?_ ?_
      rotate_left
      · show Act.put _ (some 63) _ = _
        simp only [Act.put, List.setIfInBounds_toArray, List.set_cons_zero, List.set_cons_succ, i64_w, i32_w]
        rfl
      refine one_ (i := 3) (N := some 65) fieldsR.l3 rfl rfl (one_of HT_.out (by kernel_rfl)) (by decide) (fun K hK => ?_)
      refine goes_ Try.func13 (by kernel_rfl) rfl #[.agg LY.toArray] (by rfl) rfl rfl (by (try simp only [List.map_toArray, List.map_cons, List.map_nil]); first | done | rfl) ?_
      refine (HRY.out _ hT0).mono ?_
      rintro e w5 ⟨rfl, hB5⟩
      refine ⟨_, rfl, ?_⟩
      replace hR7 := rangeAt_below hR7 hB5 hZ7
      replace hR3 := rangeAt_below hR3 hB5 hZ3
      replace hT0 := below_step hT0 hB5
      replace hZ7 := Nat.lt_of_lt_of_le hZ7 hB5.size
      replace hZ3 := Nat.lt_of_lt_of_le hZ3 hB5.size
      clear hB5
      refine hK.out _ _ ⟨hR7, hR3⟩ (fun hHeld => ?_)
      clear hK K
      refine norm_ (a' := ?_) ?_ ?_
      rotate_left
      · show Act.put _ (some 65) _ = _
        simp only [Act.put, List.setIfInBounds_toArray, List.set_cons_zero, List.set_cons_succ, i64_w, i32_w]
        rfl
      refine pure_ (i := 4) (N := some 66) (v := ?_) (a' := ?_) fieldsR.l4 rfl rfl (any_of HT_.out (by kernel_rfl)) (fun _ _ _ h => h) (Or.inl ⟨by rfl, ?_⟩) ?_ ?_
      rotate_left
      · intro w'
        go_simp
        with_reducible rfl
      rotate_left
      · simp only [Act.put, List.setIfInBounds_toArray, List.set_cons_zero, List.set_cons_succ, i64_w, i32_w]
        rfl
      refine pure_ (i := 5) (N := some 67) (v := ?_) (a' := ?_) fieldsR.l5 rfl rfl (any_of HT_.out (by kernel_rfl)) (fun _ _ _ h => h) (Or.inl ⟨by rfl, ?_⟩) ?_ ?_
      rotate_left
      · intro w'
        go_simp
        with_reducible rfl
      rotate_left
      · simp only [Act.put, List.setIfInBounds_toArray, List.set_cons_zero, List.set_cons_succ, i64_w, i32_w]
        rfl
      refine take_ (i := 6) (N := some 68) (v := ?_) (a' := ?_) fieldsR.l6 rfl rfl (take_ofW HT_.out HW_.out (by kernel_rfl)) (fun _ _ _ h => h) (Or.inl ⟨by rfl, ?_⟩) hHeld ?_ ?_
      rotate_left
      · intro w' hs_
        refine load_runO (ty := 33) (y := .tmp 3) (g := g3) (off := 0) (L := L) ?_ ?_ hs_.2 Try.underlying33 rfl HIL.out <;> rfl
      rotate_left
      · simp only [Act.put, List.setIfInBounds_toArray, List.set_cons_zero, List.set_cons_succ, i64_w, i32_w]
        rfl
      refine one_ (i := 7) (N := some 69) fieldsR.l7 rfl rfl (one_of HT_.out (by kernel_rfl)) (by decide) (fun K hK => ?_)
      refine goes_ Try.func14 (by kernel_rfl) rfl #[.agg L.toArray] (by rfl) rfl rfl (by (try simp only [List.map_toArray, List.map_cons, List.map_nil]); first | done | rfl) ?_
      refine (HOX.out _ hT0).mono ?_
      rintro e w5 ⟨rfl, hB5⟩
      refine ⟨_, rfl, ?_⟩
      replace hR7 := rangeAt_below hR7 hB5 hZ7
      replace hR3 := rangeAt_below hR3 hB5 hZ3
      replace hT0 := below_step hT0 hB5
      replace hZ7 := Nat.lt_of_lt_of_le hZ7 hB5.size
      replace hZ3 := Nat.lt_of_lt_of_le hZ3 hB5.size
      clear hB5
      refine hK.out _ _ ⟨hR7, hR3⟩ (fun hHeld => ?_)
      clear hK K
      refine norm_ (a' := ?_) ?_ ?_
      rotate_left
      · show Act.put _ (some 69) _ = _
        simp only [Act.put, List.setIfInBounds_toArray, List.set_cons_zero, List.set_cons_succ, i64_w, i32_w]
        rfl
      refine pure_ (i := 8) (N := some 70) (v := ?_) (a' := ?_) fieldsR.l8 rfl rfl (any_of HT_.out (by kernel_rfl)) (fun _ _ _ h => h) (Or.inl ⟨by rfl, ?_⟩) ?_ ?_
      rotate_left
      · intro w'
        go_simp
        with_reducible rfl
      rotate_left
      · simp only [Act.put, List.setIfInBounds_toArray, List.set_cons_zero, List.set_cons_succ, i64_w, i32_w]
        rfl
      refine pure_ (i := 9) (N := some 71) (v := ?_) (a' := ?_) fieldsR.l9 rfl rfl (any_of HT_.out (by kernel_rfl)) (fun _ _ _ h => h) (Or.inl ⟨by rfl, ?_⟩) ?_ ?_
      rotate_left
      · intro w'
        go_simp
        with_reducible rfl
      rotate_left
      · simp only [Act.put, List.setIfInBounds_toArray, List.set_cons_zero, List.set_cons_succ, i64_w, i32_w]
        rfl
      refine one_ (i := 10) (N := some 72) fieldsR.l10 rfl rfl (one_of HT_.out (by kernel_rfl)) (by decide) (fun K hK => ?_)
      refine goes_ Try.func10 (by kernel_rfl) rfl #[] (by rfl) rfl rfl (by (try simp only [List.map_toArray, List.map_cons, List.map_nil]); first | done | rfl) ?_
      refine (known_calls _).mono ?_
      rintro e w5 ⟨rfl, hB5⟩
      refine ⟨_, rfl, ?_⟩
      replace hR7 := rangeAt_below hR7 hB5 hZ7
      replace hR3 := rangeAt_below hR3 hB5 hZ3
      replace hT0 := below_step hT0 hB5
      replace hZ7 := Nat.lt_of_lt_of_le hZ7 hB5.size
      replace hZ3 := Nat.lt_of_lt_of_le hZ3 hB5.size
      clear hB5
      refine hK.out _ _ ⟨hR7, hR3⟩ (fun hHeld => ?_)
      clear hK K
      refine norm_ (a' := ?_) ?_ ?_
      rotate_left
      · show Act.put _ (some 72) _ = _
        simp only [Act.put, List.setIfInBounds_toArray, List.set_cons_zero, List.set_cons_succ, i64_w, i32_w]
        rfl
      refine pure_ (i := 11) (N := some 73) (v := ?_) (a' := ?_) fieldsR.l11 rfl rfl (any_of HT_.out (by kernel_rfl)) (fun _ _ _ h => h) (Or.inl ⟨by rfl, ?_⟩) ?_ ?_
      rotate_left
      · intro w'
        go_simp
        with_reducible rfl
      rotate_left
      · simp only [Act.put, List.setIfInBounds_toArray, List.set_cons_zero, List.set_cons_succ, i64_w, i32_w]
        rfl
      refine pure_ (i := 12) (N := some 6) (v := ?_) (a' := ?_) fieldsR.l12 rfl rfl (any_of HT_.out (by kernel_rfl)) (fun _ _ _ h => h) (Or.inl ⟨by rfl, ?_⟩) ?_ ?_
      rotate_left
      · intro w'
        go_simp
        with_reducible rfl
      rotate_left
      · simp only [Act.put, List.setIfInBounds_toArray, List.set_cons_zero, List.set_cons_succ, i64_w, i32_w]
        rfl
      refine done_ (done_of HT_.out (by kernel_rfl)) ?_
      clear HT_ HW_ hHeld
      go_wp2
      all_goals go_ret
      all_goals exact ⟨by simp, hT0⟩

set_option maxRecDepth 100000 in
theorem walks : Walks 4 Try.f4 := by
  intro H enc W base args ds ps hval hA _ _ _
  rw [Try.params4] at hA hval
  obtain ⟨v0, v1, v2, d0, d1, d2, p0, p1, p2, rfl, rfl, rfl, h0, h1, h2⟩ := trodAll_three hA
  obtain ⟨A0, c0, x, rfl, hx, hC, hc⟩ := ArgCall.open_ext (hval 0 33 v0 rfl rfl) h0
  obtain ⟨a1, rfl, rfl, rfl, _⟩ := open_int Try.underlying3 (hval 1 3 v1 rfl rfl) h1
  obtain ⟨a2, rfl, rfl, rfl, _⟩ := open_int Try.underlying3 (hval 2 3 v2 rfl rfl) h2
  exact walk x A0 c0 a1 a2 W hx hC hc
set_option maxRecDepth 100000 in
theorem rowed (os : Os) (started : os.Started) (H : Type) (enc : TypeId × Value → H) :
    ReturnsInHanded {} Try.checked os 4 .any (Rows.codeFieldsSpec.pre6 enc Try.prog Try.f4 Rows.codeFieldsRow.domain false) (Rows.codeFieldsSpec.post enc Try.prog Try.f4 false true false false) :=
  lifted (s := Rows.codeFieldsSpec) Try.func4 (by kernel_rfl) (by kernel_rfl) (by kernel_rfl) (by kernel_rfl) rfl
    (fun H ds h => by
      have h' : ds.length = 3 := h
      match ds, h' with
      | [d1, d2, d3], _ => rfl)
    os started H enc
    (ChangeSpec.witness6 (enc := enc) (C := Try.checked) false ⟨#[], #[.agg ((ext0 0 0).cells none 0).toArray, .int .i64 0, .int .i64 0], []⟩ 8 (by kernel_rfl) (by kernel_rfl) (by kernel_rfl) (by kernel_rfl)) walks
theorem over : Rows.codeFieldsRow.holds Try.pinned (OpenSpec.ofChange Rows.codeFieldsSpec) :=
  OpenClaim.holds_of_wide 4 Try.f4 rfl rfl rfl rfl rfl rfl rfl ⟨rfl, rfl, rfl, rfl, rfl⟩ rfl rfl rfl rfl rfl (by kernel_rfl) Try.func4 (by kernel_rfl)
    (of_decide_eq_true (by kernel_rfl)) (by unfold Func.isWrapper; first | (rw [if_pos (by decide +kernel)]; kernel_rfl) | (rw [if_neg (by decide +kernel)]; exact ⟨rfl, rfl⟩))
    (fun os started H enc _ => rowed os started H enc)
end Go.Proofs.Ytilckocpgififaa.LawCodeFields
namespace Go.Proofs.Ytilckocpgififaa
/-- The row, under a short name, for the claim. -/
theorem codeFields_holds : Rows.CodeFieldsSaid := LawCodeFields.over
end Go.Proofs.Ytilckocpgififaa

