/- tracks of the laws of chapters 14 and 15: two tracks (laid by mkztracks.py). -/
import Derived.Test.YtockdfnnhkhlkaaGreatCnZLoad
import Derived.Test.YtockdfnnhkhlkaaGreatCnGx0
import Derived.RangeFuncNested
import Derived.RangeFuncBound
import Derived.RangeFuncCalls
import Derived.RangeFuncLeaves
import Derived.RangeFuncBox
import Derived.Shelf.Abstract
import Derived.Shelf.RegionOpen
import Derived.OwnWalkIn
import Derived.TacticsInMore
import Derived.LoopNIn
import Derived.LoopIn
import Derived.IntWalk
import Derived.Lib.Hide
import Derived.Test.YtockdfnnhkhlkaaGreatCnGx1
namespace Go.Proofs.YtockdfnnhkhlkaaGreat.G
open Go.RowKit Go.Shelf Go.Proofs.YtockdfnnhkhlkaaGreatW.PrintWords Go.Proofs.YtockdfnnhkhlkaaGreatW.PrintLast Go.Proofs.YtockdfnnhkhlkaaGreatW.PrintMore
set_option linter.unusedVariables false
set_option linter.unusedSimpArgs false

def curveA : S82 := ⟨1, 500000000, 500000000, 1, 0⟩
def curveB : S82 := ⟨1, 10000000, 10000000, 1, 0⟩
def trackA : S84 := ⟨2, 20, 1, 6, 2, 2, curveA, curveB, 50, 0⟩
def trackB : S84 := ⟨1, 20, 1, 6, 2, 0, curveA, curveB, 1000, 2⟩
def trkZ : List Value := List.replicate 18 (.int .i64 0)
def trkOf (a b c d e f g h : Int) : List Value := [.int .i64 a, .int .i64 20, .int .i64 1, .int .i64 6, .int .i64 2, .int .i64 f, .int .i64 1, .int .i64 500000000, .int .i64 500000000, .int .i64 1, .int .i64 0, .int .i64 1, .int .i64 10000000, .int .i64 10000000, .int .i64 1, .int .i64 0, .int .i64 g, .int .i64 h]
def trkA : List Value := trkOf 2 0 0 0 0 2 50 0
def trkB : List Value := trkOf 1 0 0 0 0 0 1000 2
theorem size_track : (Tryz.prog.info? 84).map (·.size) = some 18 := by kernel_rfl
theorem trkA_one : (trkA.toArray.all fun x => x.oneCell') = true := by kernel_rfl

def althinglaw14_tracks.f : Option (List S84) := some [trackA, trackB]
set_option maxRecDepth 100000 in
set_option maxHeartbeats 8000000 in
theorem althinglaw14_tracks.calls (r : List S84) (w : World) (h : althinglaw14_tracks.f = some r) :
    Calls Tryz.prog 17 #[] w fun e w' => ∃ v0_ : Value, e = .returned v0_ ∧ Kd.R k84 84 w' w.heap.size (fun _ => True) v0_ r ∧ Below w.heap.size w w' := by
  obtain rfl := Option.some.inj h
  clear h
  have hu100 := Tryz.underlying84
  have hu97 := Tryz.underlying82
  go_enter Tryz.func17, Tryz.ntmps17
  go_upto_region 2 with (first
    | (go_at_call 32; (with_reducible refine (althinglaw14_flat.calls 500000000 _ _ _ _ _ _ rfl).mono ?_); rintro e w1 ⟨rfl, hb_⟩; have B1 := Aside0.mk hb_; clear hb_)
    | (go_at_call 32; (with_reducible refine (althinglaw14_flat.calls 10000000 _ _ _ _ _ _ rfl).mono ?_); rintro e w2 ⟨rfl, hb_⟩; have B2 := Aside0.mk (B1.out.trans (hb_.mono B1.out.size)); clear hb_))
  have n0_ : Lies (w2.alloc (.cells #[.int .i64 2, .int .i64 20, .int .i64 1, .int .i64 6, .int .i64 2, .int .i64 2, .int .i64 1, .int .i64 500000000, .int .i64 500000000, .int .i64 1, .int .i64 0, .int .i64 1, .int .i64 10000000, .int .i64 10000000, .int .i64 1, .int .i64 0, .int .i64 50, .int .i64 0] 84)) w2.heap.size trkA := Lies.box (t := 84) (blk_new w2 _)
  have n1_ := below_alloc B2.out (.cells #[.int .i64 2, .int .i64 20, .int .i64 1, .int .i64 6, .int .i64 2, .int .i64 2, .int .i64 1, .int .i64 500000000, .int .i64 500000000, .int .i64 1, .int .i64 0, .int .i64 1, .int .i64 10000000, .int .i64 10000000, .int .i64 1, .int .i64 0, .int .i64 50, .int .i64 0] 84)
  generalize w2.alloc _ = w4 at n0_ n1_ ⊢
  generalize Value.agg _ = vA0
  generalize Value.agg _ = vB0
  generalize Value.agg _ = vC0
  generalize w2.heap.size = g1 at n0_ ⊢
  have T2 := Aside0.mk n0_
  have B4 := Aside0.mk n1_
  clear n0_ n1_
  go_upto_region 3 with (first
    | ((with_reducible refine gate_dst (N := 6) rfl ?_); refine wpList_load_mid rfl 84 _ rfl g1 0 rfl trkA _ T2.out.range Tryz.underlying84 rfl size_track ?_)
    | ((with_reducible refine gate_store (t := 84) (p := 2) rfl ?_); go_loud (refine wpList_store_mid rfl 84 _ _ rfl w4.heap.size 0 trkA.toArray rfl rfl (show World.there _ w4.heap.size 0 18 from (Lies.box (L := trkZ) (t := 84) (blk_new w4 _)).there) size_track trkA_one ?_)))
  have n0_ : Lies (w4.alloc (.cells #[.int .i64 0, .int .i64 0, .int .i64 0, .int .i64 0, .int .i64 0, .int .i64 0, .int .i64 0, .int .i64 0, .int .i64 0, .int .i64 0, .int .i64 0, .int .i64 0, .int .i64 0, .int .i64 0, .int .i64 0, .int .i64 0, .int .i64 0, .int .i64 0] 84)) w4.heap.size trkZ := Lies.box (t := 84) (blk_new w4 _)
  have n2_ := T2.out.below (below_alloc (Below.refl w4.heap.size w4) (.cells #[.int .i64 0, .int .i64 0, .int .i64 0, .int .i64 0, .int .i64 0, .int .i64 0, .int .i64 0, .int .i64 0, .int .i64 0, .int .i64 0, .int .i64 0, .int .i64 0, .int .i64 0, .int .i64 0, .int .i64 0, .int .i64 0, .int .i64 0, .int .i64 0] 84)) (T2.out.lt (by decide))
  have n3_ : g1 ≠ w4.heap.size := by have := T2.out.lt (by decide); omega
  have n1_ := below_setCells w4.heap.size B4.out.size trkA 0 _ (below_alloc B4.out (.cells #[.int .i64 0, .int .i64 0, .int .i64 0, .int .i64 0, .int .i64 0, .int .i64 0, .int .i64 0, .int .i64 0, .int .i64 0, .int .i64 0, .int .i64 0, .int .i64 0, .int .i64 0, .int .i64 0, .int .i64 0, .int .i64 0, .int .i64 0, .int .i64 0] 84))
  replace n2_ := n2_.splice_far n3_ 0 trkA
  replace n0_ := n0_.splice 0 trkA (by decide)
  rw [show trkZ.take 0 ++ trkA ++ trkZ.drop (0 + trkA.length) = trkA from rfl] at n0_
  generalize World.setCells (w4.alloc _) _ _ _ = w6 at n0_ n1_ n2_ ⊢
  have n4_ : w.heap.size ≤ w4.heap.size := B4.out.size
  generalize w4.heap.size = g2 at n0_ n3_ n4_ ⊢
  have HG2 := Aside0.mk n4_
  clear n4_
  have c0 : w6.cell? ⟨g2, 0, none⟩ = some (.int .i64 2) := n0_.cell rfl
  have f0 := n0_.frozen 0 (by decide)
  have c17 : w6.cell? ⟨g2, 17, none⟩ = some (.int .i64 0) := n0_.cell rfl
  have f17 := n0_.frozen 17 (by decide)
  have c16 : w6.cell? ⟨g2, 16, none⟩ = some (.int .i64 50) := n0_.cell rfl
  have f16 := n0_.frozen 16 (by decide)
  have c5 : w6.cell? ⟨g2, 5, none⟩ = some (.int .i64 2) := n0_.cell rfl
  have f5 := n0_.frozen 5 (by decide)
  have T4 := Aside0.mk n0_
  have T5 := Aside0.mk n2_
  have B6 := Aside0.mk n1_
  clear n0_ n1_ n2_
  generalize Value.agg _ = vA
  go_upto_region 4 with (fail)
  have n0_ := (((T4.out.set 0 (by decide) (.int .i64 1)).set 17 (by decide) (.int .i64 2)).set 16 (by decide) (.int .i64 1000)).set 5 (by decide) (.int .i64 0)
  have n1_ := (((B6.out.setCell (p := ⟨g2, 0, none⟩) HG2.out (.int .i64 1)).setCell (p := ⟨g2, 17, none⟩) HG2.out (.int .i64 2)).setCell (p := ⟨g2, 16, none⟩) HG2.out (.int .i64 1000)).setCell (p := ⟨g2, 5, none⟩) HG2.out (.int .i64 0)
  have n2_ := (((T5.out.set_far n3_ 0 (.int .i64 1)).set_far n3_ 17 (.int .i64 2)).set_far n3_ 16 (.int .i64 1000)).set_far n3_ 5 (.int .i64 0)
  rw [show (((trkA.set 0 (.int .i64 1)).set 17 (.int .i64 2)).set 16 (.int .i64 1000)).set 5 (.int .i64 0) = trkB from rfl] at n0_
  clear c0 f0 c17 f17 c16 f16 c5 f5
  generalize World.setCell _ _ _ = w7 at n0_ n1_ n2_ ⊢
  have T7 := Aside0.mk n0_
  have T8 := Aside0.mk n2_
  have B7 := Aside0.mk n1_
  clear n0_ n1_ n2_ n3_
  go_wp2_with (first
    | ((with_reducible refine gate_dst (N := 11) rfl ?_); refine wpList_load_mid rfl 84 _ rfl g1 0 rfl trkA _ T8.out.range Tryz.underlying84 rfl size_track ?_)
    | ((with_reducible refine gate_dst (N := 12) rfl ?_); refine wpList_load_mid rfl 84 _ rfl g2 0 rfl trkB _ T7.out.range Tryz.underlying84 rfl size_track ?_)
    | ((with_reducible refine gate_dst (N := 13) rfl ?_); go_loud (refine Kd.R_lit k84 (w0 := w) w.heap.size 84 ?hg (N := 13) ?hd (xs := [trackA, trackB]) (inner := trkA ++ trkB) (ok := fun _ => True) (okp := fun _ => True) ?hr ?hp (fun _ hk => hk) trivial B7.out B7.out.size (by decide) ?_; (case hd => rfl); (case hg => rfl); (case hr => go_simp; rfl); (case hp => exact Reps.front (k84_mkM _ _ _ trackA) rfl (Reps.front (k84_mkM _ _ _ trackB) rfl (Reps.none _ _) rfl) rfl); intro v9 w9 hR hb hg_ hnew_; clear hg_ hnew_)))
  go_ret
  exact ⟨_, rfl, hR, hb⟩

end Go.Proofs.YtockdfnnhkhlkaaGreat.G
