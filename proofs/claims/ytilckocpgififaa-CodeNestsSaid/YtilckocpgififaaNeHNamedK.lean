import Derived.Test.YtilckocpgififaaNeHNamed
import Derived.Deep.RegionHeld3
/- code.named's contract, kind by kind (laid by mknamed.py). -/
namespace Go.Proofs.Ytilckocpgififaa.G
open Go.Extern.Stop (cell)
open Go.RowKit Go.Proofs.YtilckocpgififaaW.PrintWords Go.Proofs.YtilckocpgififaaW.PrintLast Go.Proofs.YtilckocpgififaaW.PrintMore
set_option linter.unusedVariables false
set_option linter.unusedSimpArgs false

set_option maxRecDepth 100000 in
set_option maxHeartbeats 16000000 in
theorem named_11 (x : Ext) (A : Option Addr) (c : Nat) (hk : x.kind = 11) (hx : x.sum.length = 32) (w : World) :
    Calls Try.prog 33 #[.agg (x.cells A c).toArray] w fun e w' => e = .returned (.agg ({ ext0 11 x.who with track := x.track }.cells none 0).toArray) ∧ Below w.heap.size w w' := by
  obtain ⟨X, hX⟩ : ∃ X, X = (x.cells A c).toArray := ⟨_, rfl⟩
  obtain ⟨Z, hZ⟩ : ∃ Z, Z = (ext0 0 0).cells none 0 := ⟨_, rfl⟩
  obtain ⟨Y, hY⟩ : ∃ Y, Y = (ext0 11 x.who).cells none 0 := ⟨_, rfl⟩
  have hZl : Z.length = 49 := by rw [hZ]; rfl
  have hYl : Y.length = 49 := by rw [hY]; rfl
  have hYo : ∀ v ∈ Y, v.oneCell' = true := by rw [hY]; exact Ext.cells_one _ _ _
  have hal : ∀ w, (zeroValue 33).run Try.prog w = .ok (.agg Z.toArray) w := fun w => by rw [hZ]; exact zero_ext w
  have hbr : ∀ w, (Instr.build 33 #[(0, .int .i64 11), (1, .int .i64 x.who)]).run Try.prog w = .ok (.agg Y.toArray) w := fun w => run_build w _ _ _ (by rw [hY]; exact built_ext 11 x.who)
  rw [← hX]
  have HX := Aside0.mk hX
  have HY := Aside0.mk hY
  have Hx := Aside0.mk hx
  have HZl := Aside0.mk hZl
  have HYl := Aside0.mk hYl
  have HYo := Aside0.mk hYo
  have HK := Aside0.mk hk
  clear hX hY hx hZ hZl hYl hYo hk
  go_enter Try.func33, Try.ntmps33
  go_upto_region 1 with (first
    | ((with_reducible refine gate_dst (N := 1) rfl ?_); refine box_event ?hg (N := 1) ?hd (cs := X) (t := 33) ?hr ?_; (case hd => rfl); (case hg => rfl); (case hr => first | (go_simp; done) | (go_simp; rfl)); intro g1 hg1 w1 hbox1 hb1; have BX1 := Aside0.mk (rangeAt_box (HX.out ▸ hbox1)); have HXlt := Aside0.mk (blk_lt hbox1); have HB1 := Aside0.mk hb1; clear hg1 hbox1 hb1)
    | ((with_reducible refine gate_dst (N := 2) rfl ?_); refine box_event ?hg (N := 2) ?hd (cs := Z.toArray) (t := 33) ?hr ?_; (case hd => rfl); (case hg => rfl); (case hr => first | (simp [execOp, Instr.alloc, hal, newVar, newRow, go_sem]; done) | (simp [execOp, Instr.alloc, hal, newVar, newRow, go_sem]; rfl)); intro g2 hg2 w2 hbox2 hb2; have G2 := Aside0.mk hg2; have BZ2 := Aside0.mk (there_box hbox2); have HZlt := Aside0.mk (blk_lt hbox2); have HB2 := Aside0.mk hb2; clear hg2 hbox2 hb2))
  obtain ⟨p0, p1, p2, p3, p4, p5, p6⟩ := x.at_head A c (rangeAt_below BX1.out HB2.out HXlt.out)
  rw [HK.out] at p0
  go_upto_region 2 with (first
    | ((with_reducible refine gate_dst (N := 8) rfl ?_); refine Kd.event_run (v := .agg Y.toArray) (w1 := w2) rfl (by first | (simp [execOp, hbr, go_sem]; done) | (simp [execOp, hbr, go_sem]; rw [HY.out]; rfl)) ?_)
    | ((with_reducible refine gate_dst (N := 3) rfl ?_); refine box_event ?hg (N := 3) ?hd (cs := Z.toArray) (t := 33) ?hr ?_; (case hd => rfl); (case hg => rfl); (case hr => first | (simp [execOp, Instr.alloc, hal, newVar, newRow, go_sem]; done) | (simp [execOp, Instr.alloc, hal, newVar, newRow, go_sem]; rfl)); intro g3 hg3 w3 hbox3 hb3; have G3 := Aside0.mk hg3; have BZ3 := Aside0.mk (there_box hbox3); have HYlt := Aside0.mk (blk_lt hbox3); have HB3 := Aside0.mk hb3; clear hg3 hbox3 hb3)
    | ((with_reducible refine gate_store (t := 33) (p := 3) rfl ?_); refine wpList_store_mid rfl 33 _ _ rfl g3 0 Y.toArray rfl rfl (by rw [List.size_toArray, HYl.out, ← HZl.out]; exact BZ3.out) (by rw [List.size_toArray, HYl.out]; exact info_ext') (all_oneCell_toArray HYo.out) ?_))
  have ne13 : g1 ≠ g3 := by have := G3.out; have := HB2.out.size; have := HXlt.out; omega
  have ne23 : g2 ≠ g3 := by have := G3.out; have := HZlt.out; omega
  have BX3 := rangeAt_below (rangeAt_below BX1.out HB2.out HXlt.out) HB3.out (by have := HB2.out.size; have := HXlt.out; omega)
  have BX4 := Aside0.mk (World.rangeAt_setCells_apart BX3 g3 0 Y (.inl ne13))
  have BY4 := Aside0.mk (World.rangeAt_setCells_same w3 g3 0 Y (by rw [HYl.out, ← HZl.out]; exact BZ3.out))
  have TY4 := Aside0.mk (World.there_setCells BZ3.out g3 0 Y)
  have TZ3 : w3.there g2 0 Z.length := fun j hj => ⟨by rw [HB3.out.cell (p := ⟨g2, 0 + j, none⟩) HZlt.out]; exact (BZ2.out j hj).1, by rw [HB3.out.frozen (p := ⟨g2, 0 + j, none⟩) HZlt.out]; exact (BZ2.out j hj).2⟩
  have TZ4 := Aside0.mk (World.there_setCells TZ3 g3 0 Y)
  have HB3a := below_step (below_step HB1.out HB2.out) HB3.out
  have HB4 := Aside0.mk (below_setCells g3 (by have := G3.out; have := (below_step HB1.out HB2.out).size; omega) Y 0 w3 HB3a)
  have s1 : w.heap.size ≤ g2 := by have := G2.out; have := HB1.out.size; omega
  have s2 : w.heap.size ≤ g3 := by have := G3.out; have := (below_step HB1.out HB2.out).size; omega
  clear BX3 TZ3 HB3a p0 p1 p2 p3 p4 p5 p6
  generalize w3.setCells g3 0 Y = w4 at BX4 BY4 TY4 TZ4 HB4 ⊢
  obtain ⟨p0, p1, p2, p3, p4, p5, p6⟩ := x.at_head A c BX4.out
  rw [HK.out] at p0
  have c5 : w4.cell? ⟨g3, 5, none⟩ = some (.int .i64 0) := by have := BY4.out 5 (.int .i64 0) (by rw [HY.out]; rfl); rw [Nat.zero_add] at this; exact this
  have f5 : w4.frozen? ⟨g3, 5, none⟩ = false := by have := (TY4.out 5 (by rw [HZl.out]; decide)).2; rw [Nat.zero_add] at this; exact this
  go_upto_region 22 with (fail)
  have TYs := TY4.out
  rw [HZl.out, ← HYl.out] at TYs
  have BY0_ := set_range BY4.out (by (try simp only [List.length_set]); exact TYs) 5 (by (try simp only [List.length_set]); rw [HYl.out]; decide) (.int .i64 x.track)
  have TY0_ := there_setCell TYs g3 5 (.int .i64 x.track)
  have TZ0_ := there_setCell TZ4.out g3 5 (.int .i64 x.track)
  have HB0_ := HB4.out.setCell (p := ⟨g3, 5, none⟩) s2 (.int .i64 x.track)
  obtain ⟨L, hL⟩ : ∃ L, L = (Y).set 5 (.int .i64 x.track) := ⟨_, rfl⟩
  rw [← hL] at BY0_
  have HLl := Aside0.mk (by rw [hL]; simp only [List.length_set]; exact HYl.out : L.length = 49)
  have HLo := Aside0.mk (by
    rw [hL]; intro v hv
    rcases List.mem_or_eq_of_mem_set hv with hv | rfl
    rotate_left
    · rfl
    exact HYo.out v hv : ∀ v ∈ L, v.oneCell' = true)
  have HL := Aside0.mk hL
  have BY5 := Aside0.mk BY0_
  have TZ5 := Aside0.mk TZ0_
  have HB5 := Aside0.mk HB0_
  generalize (w4).setCell ⟨g3, 5, none⟩ (.int .i64 x.track) = w5 at BY5 TZ5 HB5 ⊢
  go_wp2_with (first
    | ((with_reducible refine gate_dst (N := 75) rfl ?_); refine wpList_load_mid rfl 33 _ rfl g3 0 rfl L _ BY5.out Try.underlying33 rfl (by rw [HLl.out]; exact info_ext') ?_)
    | ((with_reducible refine gate_store (t := 33) (p := 2) rfl ?_); refine wpList_store_mid rfl 33 _ _ rfl g2 0 L.toArray rfl rfl (by rw [List.size_toArray, HLl.out, ← HZl.out]; exact TZ5.out) (by rw [List.size_toArray, HLl.out]; exact info_ext') (all_oneCell_toArray HLo.out) ?_))
  have BR := World.rangeAt_setCells_same w5 g2 0 L (by rw [HLl.out, ← HZl.out]; exact TZ5.out)
  have hres := run_loadVar_mid (P := Try.prog) (w5.setCells g2 0 L) g2 0 33 L _ BR Try.underlying33 rfl (by rw [HLl.out]; exact info_ext')
  refine bodyPost_ret (v := .agg L.toArray) (results_cell rfl _ rfl hres) rfl ?_
  exact ⟨by rw [HL.out, HY.out]; rfl, below_setCells g2 s1 L 0 w5 HB5.out⟩

end Go.Proofs.Ytilckocpgififaa.G
