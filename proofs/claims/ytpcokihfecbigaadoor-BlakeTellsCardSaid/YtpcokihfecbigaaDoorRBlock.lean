/- the reference's begin and block (laid by mkref.py) -/
import Derived.Test.YtpcokihfecbigaaDoorBArr
import Derived.Test.YtpcokihfecbigaaDoorRSpec
import Derived.Test.YtpcokihfecbigaaDoorBKeyed
import Derived.Deep.RegionHeld3
namespace Go.Proofs.YtpcokihfecbigaaDoor.G
open Go.RowKit Go.Proofs.YtpcokihfecbigaaDoorW.PrintWords Go.Proofs.YtpcokihfecbigaaDoorW.PrintLast Go.Proofs.YtpcokihfecbigaaDoorW.PrintMore
set_option linter.unusedVariables false
set_option linter.unusedSimpArgs false
def ref_block_r8.T : Bool × List (List Nat × List Nat) := (true, [([], []), ([], []), ([1], [1]), ([2], [2]), ([3], [3]), ([], []), ([], []), ([6], [6]), ([], []), ([7, 8], [7, 8]), ([5, 9], [5, 9]), ([10], [10]), ([11], [11]), ([4, 12], [4, 12]), ([0, 0, 1, 2, 3, 4, 5, 6, 7, 8, 9, 10, 11, 12, 13], [0]), ([14, 13, 0, 1, 2, 3, 4, 5, 6, 7, 8, 9, 10, 11, 12, 13], [13, 14])])
def ref_block_r8.B : List Nat := [0, 0, 2, 6, 14, 0, 0, 64, 0, 448, 992, 2016, 4064, 8190, 16383, 32767]
theorem ref_block_r8.tab : rtab .any (opsOf Tryd.f21 8) = ref_block_r8.T := by kernel_rfl
theorem ref_block_r8.bits : waitsOk ref_block_r8.T.2 ref_block_r8.B = true := by kernel_rfl
def ref_block_r8.l0 : Array Bool := #[true, false, false, false, false, false, false, false, false, false, false, false, false, false, false, false]
def ref_block_r8.l1 : Array Bool := #[true, true, false, false, false, false, false, false, false, false, false, false, false, false, false, false]
def ref_block_r8.l2 : Array Bool := #[true, true, true, false, false, false, false, false, false, false, false, false, false, false, false, false]
def ref_block_r8.l3 : Array Bool := #[true, true, true, true, false, false, false, false, false, false, false, false, false, false, false, false]
def ref_block_r8.l4 : Array Bool := #[true, true, true, true, true, false, false, false, false, false, false, false, false, false, false, false]
def ref_block_r8.l5 : Array Bool := #[true, true, true, true, true, true, false, false, false, false, false, false, false, false, false, false]
def ref_block_r8.l6 : Array Bool := #[true, true, true, true, true, true, true, false, false, false, false, false, false, false, false, false]
def ref_block_r8.l7 : Array Bool := #[true, true, true, true, true, true, true, true, false, false, false, false, false, false, false, false]
def ref_block_r8.l8 : Array Bool := #[true, true, true, true, true, true, true, true, true, false, false, false, false, false, false, false]
def ref_block_r8.l9 : Array Bool := #[true, true, true, true, true, true, true, true, true, true, false, false, false, false, false, false]
def ref_block_r8.l10 : Array Bool := #[true, true, true, true, true, true, true, true, true, true, true, false, false, false, false, false]
def ref_block_r8.l11 : Array Bool := #[true, true, true, true, true, true, true, true, true, true, true, true, false, false, false, false]
def ref_block_r8.l12 : Array Bool := #[true, true, true, true, true, true, true, true, true, true, true, true, true, false, false, false]
def ref_block_r8.l13 : Array Bool := #[true, true, true, true, true, true, true, true, true, true, true, true, true, true, false, false]
def ref_block_r8.l14 : Array Bool := #[true, true, true, true, true, true, true, true, true, true, true, true, true, true, true, false]
def ref_block_r8.l15 : Array Bool := #[true, true, true, true, true, true, true, true, true, true, true, true, true, true, true, true]
def ref_block_r25.T : Bool × List (List Nat × List Nat) := (true, [([], []), ([], []), ([1], [1]), ([], []), ([3], [3]), ([], []), ([5], [5]), ([], []), ([], []), ([8], [8]), ([7, 9], [7, 9]), ([10], [10]), ([11], [11]), ([12], [12]), ([], []), ([], []), ([15], [15]), ([16], [16]), ([14, 17], [14, 17]), ([18, 11], [18]), ([19], [19]), ([20], [20]), ([0, 2, 4, 6, 13, 21, 19], [0, 2, 4, 6, 13, 21])])
def ref_block_r25.B : List Nat := [0, 0, 2, 0, 8, 0, 32, 0, 0, 256, 896, 1920, 3968, 8064, 0, 0, 32768, 98304, 245760, 511872, 1036160, 2084736, 4194303]
theorem ref_block_r25.tab : rtab .any (opsOf Tryd.f21 25) = ref_block_r25.T := by kernel_rfl
theorem ref_block_r25.bits : waitsOk ref_block_r25.T.2 ref_block_r25.B = true := by kernel_rfl
def ref_block_r25.l0 : Array Bool := #[true, false, false, false, false, false, false, false, false, false, false, false, false, false, false, false, false, false, false, false, false, false, false]
def ref_block_r25.l1 : Array Bool := #[true, true, false, false, false, false, false, false, false, false, false, false, false, false, false, false, false, false, false, false, false, false, false]
def ref_block_r25.l2 : Array Bool := #[true, true, true, false, false, false, false, false, false, false, false, false, false, false, false, false, false, false, false, false, false, false, false]
def ref_block_r25.l3 : Array Bool := #[true, true, true, true, false, false, false, false, false, false, false, false, false, false, false, false, false, false, false, false, false, false, false]
def ref_block_r25.l4 : Array Bool := #[true, true, true, true, true, false, false, false, false, false, false, false, false, false, false, false, false, false, false, false, false, false, false]
def ref_block_r25.l5 : Array Bool := #[true, true, true, true, true, true, false, false, false, false, false, false, false, false, false, false, false, false, false, false, false, false, false]
def ref_block_r25.l6 : Array Bool := #[true, true, true, true, true, true, true, false, false, false, false, false, false, false, false, false, false, false, false, false, false, false, false]
def ref_block_r25.l7 : Array Bool := #[true, true, true, true, true, true, true, true, false, false, false, false, false, false, false, false, false, false, false, false, false, false, false]
def ref_block_r25.l8 : Array Bool := #[true, true, true, true, true, true, true, true, true, false, false, false, false, false, false, false, false, false, false, false, false, false, false]
def ref_block_r25.l9 : Array Bool := #[true, true, true, true, true, true, true, true, true, true, false, false, false, false, false, false, false, false, false, false, false, false, false]
def ref_block_r25.l10 : Array Bool := #[true, true, true, true, true, true, true, true, true, true, true, false, false, false, false, false, false, false, false, false, false, false, false]
def ref_block_r25.l11 : Array Bool := #[true, true, true, true, true, true, true, true, true, true, true, false, false, false, true, false, false, false, false, false, false, false, false]
def ref_block_r25.l12 : Array Bool := #[true, true, true, true, true, true, true, true, true, true, true, false, false, false, true, true, false, false, false, false, false, false, false]
def ref_block_r25.l13 : Array Bool := #[true, true, true, true, true, true, true, true, true, true, true, false, false, false, true, true, true, false, false, false, false, false, false]
def ref_block_r25.l14 : Array Bool := #[true, true, true, true, true, true, true, true, true, true, true, false, false, false, true, true, true, true, false, false, false, false, false]
def ref_block_r25.l15 : Array Bool := #[true, true, true, true, true, true, true, true, true, true, true, false, false, false, true, true, true, true, true, false, false, false, false]
def ref_block_r25.l16 : Array Bool := #[true, true, true, true, true, true, true, true, true, true, true, true, false, false, true, true, true, true, true, false, false, false, false]
def ref_block_r25.l17 : Array Bool := #[true, true, true, true, true, true, true, true, true, true, true, true, true, false, true, true, true, true, true, false, false, false, false]
def ref_block_r25.l18 : Array Bool := #[true, true, true, true, true, true, true, true, true, true, true, true, true, true, true, true, true, true, true, false, false, false, false]
def ref_block_r25.l19 : Array Bool := #[true, true, true, true, true, true, true, true, true, true, true, true, true, true, true, true, true, true, true, true, false, false, false]
def ref_block_r25.l20 : Array Bool := #[true, true, true, true, true, true, true, true, true, true, true, true, true, true, true, true, true, true, true, true, true, false, false]
def ref_block_r25.l21 : Array Bool := #[true, true, true, true, true, true, true, true, true, true, true, true, true, true, true, true, true, true, true, true, true, true, false]
def ref_block_r25.l22 : Array Bool := #[true, true, true, true, true, true, true, true, true, true, true, true, true, true, true, true, true, true, true, true, true, true, true]
def ref_block_r29.T : Bool × List (List Nat × List Nat) := (true, [([], []), ([], []), ([1], [1]), ([2], [2]), ([3], [3]), ([], []), ([5], [5]), ([6], [6]), ([7], [7]), ([], []), ([9], [9]), ([10], [10]), ([11], [11]), ([], []), ([], []), ([14], [14]), ([15], [15]), ([13, 16], [13, 16]), ([17], [17]), ([18], [18]), ([19], [19]), ([], []), ([], []), ([22], [22]), ([23], [23]), ([21, 24], [21, 24]), ([25, 18], [25]), ([26], [26]), ([27], [27]), ([0, 4, 8, 12, 20, 28, 26], [0, 4, 8, 12, 20, 28])])
def ref_block_r29.B : List Nat := [0, 0, 2, 6, 14, 0, 32, 96, 224, 0, 512, 1536, 3584, 0, 0, 16384, 49152, 122880, 253952, 516096, 1040384, 0, 0, 4194304, 12582912, 31457280, 65527808, 132636672, 266854400, 536870911]
theorem ref_block_r29.tab : rtab .any (opsOf Tryd.f21 29) = ref_block_r29.T := by kernel_rfl
theorem ref_block_r29.bits : waitsOk ref_block_r29.T.2 ref_block_r29.B = true := by kernel_rfl
def ref_block_r29.l0 : Array Bool := #[true, false, false, false, false, false, false, false, false, false, false, false, false, false, false, false, false, false, false, false, false, false, false, false, false, false, false, false, false, false]
def ref_block_r29.l1 : Array Bool := #[true, true, false, false, false, false, false, false, false, false, false, false, false, false, false, false, false, false, false, false, false, false, false, false, false, false, false, false, false, false]
def ref_block_r29.l2 : Array Bool := #[true, true, true, false, false, false, false, false, false, false, false, false, false, false, false, false, false, false, false, false, false, false, false, false, false, false, false, false, false, false]
def ref_block_r29.l3 : Array Bool := #[true, true, true, true, false, false, false, false, false, false, false, false, false, false, false, false, false, false, false, false, false, false, false, false, false, false, false, false, false, false]
def ref_block_r29.l4 : Array Bool := #[true, true, true, true, true, false, false, false, false, false, false, false, false, false, false, false, false, false, false, false, false, false, false, false, false, false, false, false, false, false]
def ref_block_r29.l5 : Array Bool := #[true, true, true, true, true, true, false, false, false, false, false, false, false, false, false, false, false, false, false, false, false, false, false, false, false, false, false, false, false, false]
def ref_block_r29.l6 : Array Bool := #[true, true, true, true, true, true, true, false, false, false, false, false, false, false, false, false, false, false, false, false, false, false, false, false, false, false, false, false, false, false]
def ref_block_r29.l7 : Array Bool := #[true, true, true, true, true, true, true, true, false, false, false, false, false, false, false, false, false, false, false, false, false, false, false, false, false, false, false, false, false, false]
def ref_block_r29.l8 : Array Bool := #[true, true, true, true, true, true, true, true, true, false, false, false, false, false, false, false, false, false, false, false, false, false, false, false, false, false, false, false, false, false]
def ref_block_r29.l9 : Array Bool := #[true, true, true, true, true, true, true, true, true, true, false, false, false, false, false, false, false, false, false, false, false, false, false, false, false, false, false, false, false, false]
def ref_block_r29.l10 : Array Bool := #[true, true, true, true, true, true, true, true, true, true, true, false, false, false, false, false, false, false, false, false, false, false, false, false, false, false, false, false, false, false]
def ref_block_r29.l11 : Array Bool := #[true, true, true, true, true, true, true, true, true, true, true, true, false, false, false, false, false, false, false, false, false, false, false, false, false, false, false, false, false, false]
def ref_block_r29.l12 : Array Bool := #[true, true, true, true, true, true, true, true, true, true, true, true, true, false, false, false, false, false, false, false, false, false, false, false, false, false, false, false, false, false]
def ref_block_r29.l13 : Array Bool := #[true, true, true, true, true, true, true, true, true, true, true, true, true, true, false, false, false, false, false, false, false, false, false, false, false, false, false, false, false, false]
def ref_block_r29.l14 : Array Bool := #[true, true, true, true, true, true, true, true, true, true, true, true, true, true, true, false, false, false, false, false, false, false, false, false, false, false, false, false, false, false]
def ref_block_r29.l15 : Array Bool := #[true, true, true, true, true, true, true, true, true, true, true, true, true, true, true, true, false, false, false, false, false, false, false, false, false, false, false, false, false, false]
def ref_block_r29.l16 : Array Bool := #[true, true, true, true, true, true, true, true, true, true, true, true, true, true, true, true, true, false, false, false, false, false, false, false, false, false, false, false, false, false]
def ref_block_r29.l17 : Array Bool := #[true, true, true, true, true, true, true, true, true, true, true, true, true, true, true, true, true, true, false, false, false, false, false, false, false, false, false, false, false, false]
def ref_block_r29.l18 : Array Bool := #[true, true, true, true, true, true, true, true, true, true, true, true, true, true, true, true, true, true, false, false, false, true, false, false, false, false, false, false, false, false]
def ref_block_r29.l19 : Array Bool := #[true, true, true, true, true, true, true, true, true, true, true, true, true, true, true, true, true, true, false, false, false, true, true, false, false, false, false, false, false, false]
def ref_block_r29.l20 : Array Bool := #[true, true, true, true, true, true, true, true, true, true, true, true, true, true, true, true, true, true, false, false, false, true, true, true, false, false, false, false, false, false]
def ref_block_r29.l21 : Array Bool := #[true, true, true, true, true, true, true, true, true, true, true, true, true, true, true, true, true, true, false, false, false, true, true, true, true, false, false, false, false, false]
def ref_block_r29.l22 : Array Bool := #[true, true, true, true, true, true, true, true, true, true, true, true, true, true, true, true, true, true, false, false, false, true, true, true, true, true, false, false, false, false]
def ref_block_r29.l23 : Array Bool := #[true, true, true, true, true, true, true, true, true, true, true, true, true, true, true, true, true, true, true, false, false, true, true, true, true, true, false, false, false, false]
def ref_block_r29.l24 : Array Bool := #[true, true, true, true, true, true, true, true, true, true, true, true, true, true, true, true, true, true, true, true, false, true, true, true, true, true, false, false, false, false]
def ref_block_r29.l25 : Array Bool := #[true, true, true, true, true, true, true, true, true, true, true, true, true, true, true, true, true, true, true, true, true, true, true, true, true, true, false, false, false, false]
def ref_block_r29.l26 : Array Bool := #[true, true, true, true, true, true, true, true, true, true, true, true, true, true, true, true, true, true, true, true, true, true, true, true, true, true, true, false, false, false]
def ref_block_r29.l27 : Array Bool := #[true, true, true, true, true, true, true, true, true, true, true, true, true, true, true, true, true, true, true, true, true, true, true, true, true, true, true, true, false, false]
def ref_block_r29.l28 : Array Bool := #[true, true, true, true, true, true, true, true, true, true, true, true, true, true, true, true, true, true, true, true, true, true, true, true, true, true, true, true, true, false]
def ref_block_r29.l29 : Array Bool := #[true, true, true, true, true, true, true, true, true, true, true, true, true, true, true, true, true, true, true, true, true, true, true, true, true, true, true, true, true, true]
def ref_block_r33.T : Bool × List (List Nat × List Nat) := (true, [([], []), ([], []), ([1], [1]), ([2], [2]), ([], []), ([4], [4]), ([5], [5]), ([3, 6], [3, 6]), ([], []), ([8], [8]), ([9], [9]), ([10], [10]), ([7, 11], [7, 11]), ([0, 0, 1, 2, 3, 4, 5, 6, 7, 8, 9, 10, 11, 12], [0]), ([13, 12, 0, 1, 2, 3, 4, 5, 6, 7, 8, 9, 10, 11, 12], [12, 13])])
def ref_block_r33.B : List Nat := [0, 0, 2, 6, 0, 16, 48, 126, 0, 256, 768, 1792, 4094, 8191, 16383]
theorem ref_block_r33.tab : rtab .any (opsOf Tryd.f21 33) = ref_block_r33.T := by kernel_rfl
theorem ref_block_r33.bits : waitsOk ref_block_r33.T.2 ref_block_r33.B = true := by kernel_rfl
def ref_block_r33.l0 : Array Bool := #[true, false, false, false, false, false, false, false, false, false, false, false, false, false, false]
def ref_block_r33.l1 : Array Bool := #[true, true, false, false, false, false, false, false, false, false, false, false, false, false, false]
def ref_block_r33.l2 : Array Bool := #[true, true, true, false, false, false, false, false, false, false, false, false, false, false, false]
def ref_block_r33.l3 : Array Bool := #[true, true, true, true, false, false, false, false, false, false, false, false, false, false, false]
def ref_block_r33.l4 : Array Bool := #[true, true, true, true, true, false, false, false, false, false, false, false, false, false, false]
def ref_block_r33.l5 : Array Bool := #[true, true, true, true, true, true, false, false, false, false, false, false, false, false, false]
def ref_block_r33.l6 : Array Bool := #[true, true, true, true, true, true, true, false, false, false, false, false, false, false, false]
def ref_block_r33.l7 : Array Bool := #[true, true, true, true, true, true, true, true, false, false, false, false, false, false, false]
def ref_block_r33.l8 : Array Bool := #[true, true, true, true, true, true, true, true, true, false, false, false, false, false, false]
def ref_block_r33.l9 : Array Bool := #[true, true, true, true, true, true, true, true, true, true, false, false, false, false, false]
def ref_block_r33.l10 : Array Bool := #[true, true, true, true, true, true, true, true, true, true, true, false, false, false, false]
def ref_block_r33.l11 : Array Bool := #[true, true, true, true, true, true, true, true, true, true, true, true, false, false, false]
def ref_block_r33.l12 : Array Bool := #[true, true, true, true, true, true, true, true, true, true, true, true, true, false, false]
def ref_block_r33.l13 : Array Bool := #[true, true, true, true, true, true, true, true, true, true, true, true, true, true, false]
def ref_block_r33.l14 : Array Bool := #[true, true, true, true, true, true, true, true, true, true, true, true, true, true, true]
set_option maxRecDepth 100000 in
set_option maxHeartbeats 16000000 in
theorem ref_begin.calls (w : World) : Calls Tryd.prog 20 #[] w fun e w' => e = .returned (.agg (beginV.map (Value.int .u64)).toArray) ∧ Below w.heap.size w w' := by
  obtain ⟨Z, hZ⟩ : ∃ Z, Z = (List.replicate 8 (0 : Int)).map (Value.int .u64) := ⟨_, rfl⟩
  obtain ⟨X, hX⟩ : ∃ X, X = beginV.map (Value.int .u64) := ⟨_, rfl⟩
  have hZl : Z.length = 8 := by rw [hZ]; rfl
  have hXl : X.length = 8 := by rw [hX]; rfl
  have hal : ∀ w, (zeroValue 41).run Tryd.prog w = .ok (.agg Z.toArray) w := fun w => by rw [hZ]; exact zero_run info_a8 w
  have hbr : ∀ w, (Instr.build 41 #[(0, .int .u64 7640891576956012808), (1, .int .u64 13503953896175478587), (2, .int .u64 4354685564936845355), (3, .int .u64 11912009170470909681), (4, .int .u64 5840696475078001361), (5, .int .u64 11170449401992604703), (6, .int .u64 2270897969802886507), (7, .int .u64 6620516959819538809)]).run Tryd.prog w = .ok (.agg X.toArray) w := fun w => run_build w _ _ _ (by rw [hX]; exact built_begin)
  have hXo : ∀ v ∈ X, v.oneCell' = true := by rw [hX]; exact one_of_map _
  rw [← hX]
  have HX := Aside0.mk hX
  have HZl := Aside0.mk hZl
  have HXl := Aside0.mk hXl
  have HXo := Aside0.mk hXo
  clear hX hZ hZl hXl hXo
  go_enter Tryd.func20, Tryd.ntmps20
  go_upto_region 1 with ((with_reducible refine gate_dst (N := 0) rfl ?_); refine box_event ?hg (N := 0) ?hd (cs := Z.toArray) (t := 41) ?hr ?_; (case hd => rfl); (case hg => rfl); (case hr => first | (simp [execOp, Instr.alloc, hal, newVar, newRow, go_sem]; done) | (simp [execOp, Instr.alloc, hal, newVar, newRow, go_sem]; rfl)); intro g2 hg_ w2 hbox_ hb_; have G2 := Aside0.mk hg_; have BZ2 := Aside0.mk (there_box hbox_); have HB2 := Aside0.mk hb_; clear hg_ hbox_ hb_)
  go_wp2_with (first
    | ((with_reducible refine gate_dst (N := 1) rfl ?_); refine Kd.event_run (v := .agg X.toArray) (w1 := w2) rfl (by first | (simp [execOp, hbr, go_sem]; done) | (simp [execOp, hbr, go_sem]; rw [HX.out]; rfl)) ?_)
    | ((with_reducible refine gate_store (t := 41) (p := 0) rfl ?_); refine wpList_store_mid rfl 41 _ _ rfl g2 0 X.toArray rfl rfl (by rw [List.size_toArray, HXl.out, ← HZl.out]; exact BZ2.out) (by rw [List.size_toArray, HXl.out]; exact size_of info_a8) (all_oneCell_toArray HXo.out) ?_))
  have BR := World.rangeAt_setCells_same w2 g2 0 X (by rw [HXl.out, ← HZl.out]; exact BZ2.out)
  have hres := run_loadVar_mid (P := Tryd.prog) (w2.setCells g2 0 X) g2 0 41 X _ BR Tryd.underlying41 rfl (by rw [HXl.out]; exact size_of info_a8)
  refine bodyPost_ret (v := .agg X.toArray) (results_cell rfl _ rfl hres) rfl ?_
  exact ⟨rfl, below_setCells g2 (by have := G2.out; omega) X 0 w2 HB2.out⟩

theorem ref_mix_i (g : Nat) (V0 : List Int) (a b c d x y : Int) (w : World) (ha : 0 ≤ a ∧ a < 16) (hb : 0 ≤ b ∧ b < 16) (hc : 0 ≤ c ∧ c < 16) (hd : 0 ≤ d ∧ d < 16) (hL0 : V0.length = 16) (hA : Arr w g V0) :
    Calls Tryd.prog 29 #[.pointer (some ⟨g, 0, none⟩), .int .i64 a, .int .i64 b, .int .i64 c, .int .i64 d, .int .u64 x, .int .u64 y] w fun e w' => e = .returned (.tuple #[]) ∧ Arr w' g (ref_mix.f V0 a.toNat b.toNat c.toNat d.toNat x y) ∧ w.grownBy w' (some g) := by
  have := ref_mix.calls g a.toNat b.toNat c.toNat d.toNat V0 x y w (by omega) (by omega) (by omega) (by omega) hL0 hA
  rwa [Int.toNat_of_nonneg ha.1, Int.toNat_of_nonneg hb.1, Int.toNat_of_nonneg hc.1, Int.toNat_of_nonneg hd.1] at this
theorem ref_word (j : Nat) (hj : j < 10) (i : Int) (h0 : 0 ≤ i) (h1 : i < 16) : ∃ b1 p1 : Int, (∀ W, (Instr.index 9 (.string (rowOf j)) (.int .i64 i)).run Tryd.prog W = .ok (.int .u8 b1) W) ∧ althingref2_digit.f b1 = some p1 ∧ 0 ≤ p1 ∧ p1 < 16 ∧ p1.toNat = (permOf j).getD i.toNat 0 := by
  obtain ⟨b, hb, hd, hp⟩ := ref_digit_is ⟨j, hj⟩ ⟨i.toNat, by omega⟩
  refine ⟨(b.toNat : Int), _, fun W => ?_, hd, by omega, Int.ofNat_lt.2 hp, by simp⟩
  have hb' : (rowOf j)[i.toNat]? = some b := hb
  simp [Instr.index, run_underlying Tryd.underlying9, asIntOf, h0, go_sem, hb']

set_option maxRecDepth 100000 in
set_option maxHeartbeats 16000000 in
theorem ref_block.calls (H p : List Int) (A : Option Addr) (cp : Nat) (cnt : Int) (last : Bool) (w : World) (hH : H.length = 8) (hp : p.length = 128) (hC : Kd.C (Kd.int .u8) w A p.length p) (hB : ∀ c ∈ p, 0 ≤ c ∧ c < 256) :
    Calls Tryd.prog 21 #[.agg (H.map (Value.int .u64)).toArray, .slice A p.length cp, .int .i64 cnt, .bool last] w fun e w' => e = .returned (.agg ((blockR H p cnt last).map (Value.int .u64)).toArray) ∧ Below w.heap.size w w' := by
  obtain ⟨Z, hZ⟩ : ∃ Z, Z = zero16.map (Value.int .u64) := ⟨_, rfl⟩
  obtain ⟨Z8, hZ8⟩ : ∃ Z, Z = (List.replicate 8 (0 : Int)).map (Value.int .u64) := ⟨_, rfl⟩
  obtain ⟨LH, hLH⟩ : ∃ L, L = H.map (Value.int .u64) := ⟨_, rfl⟩
  obtain ⟨L8, hL8⟩ : ∃ L, L = beginV.map (Value.int .u64) := ⟨_, rfl⟩
  have hZl : Z.length = 16 := by rw [hZ]; rfl
  have hZ8l : Z8.length = 8 := by rw [hZ8]; rfl
  have hL8l : L8.length = 8 := by rw [hL8]; rfl
  have hLHl : LH.length = 8 := by rw [hLH, List.length_map, hH]
  have hL8o : ∀ v ∈ L8, v.oneCell' = true := by rw [hL8]; exact one_of_map _
  have HAL : Aside0 (∀ w, (zeroValue 55).run Tryd.prog w = .ok (.agg Z.toArray) w) := ⟨fun w => by rw [hZ]; exact zero_run info_a16 w⟩
  have HAL8 : Aside0 (∀ w, (zeroValue 41).run Tryd.prog w = .ok (.agg Z8.toArray) w) := ⟨fun w => by rw [hZ8]; exact zero_run info_a8 w⟩
  have HBE : Aside0 (∀ w, Calls Tryd.prog 20 #[] w fun e w' => e = .returned (.agg L8.toArray) ∧ Below w.heap.size w w') := ⟨fun w => by rw [hL8]; exact ref_begin.calls w⟩
  have HLT : Aside0 (∀ ad, A = some ad → ad.block < w.heap.size) := ⟨fun ad e => by
    obtain ⟨ad', e', hc⟩ := C_cell hC 0 (by omega) rfl
    rw [e] at e'; cases e'
    have := World.block_lt_of_cell? w _ hc
    rwa [add_block] at this⟩
  rw [← hLH]
  have HZ := Aside0.mk hZ
  have HZl := Aside0.mk hZl
  have HZ8l := Aside0.mk hZ8l
  have HL8 := Aside0.mk hL8
  have HL8l := Aside0.mk hL8l
  have HL8o := Aside0.mk hL8o
  have HLH := Aside0.mk hLH
  have HLHl := Aside0.mk hLHl
  have HC := Aside0.mk hC
  have HBy := Aside0.mk hB
  have HHl := Aside0.mk hH
  have Hp := Aside0.mk hp
  clear hZ hZ8 hL8 hLH hZl hZ8l hL8l hLHl hL8o hC hB hH
  go_enter Tryd.func21, Tryd.ntmps21
  go_upto_region 2 with (first
    | ((with_reducible refine gate_dst (N := 4) rfl ?_); refine box_event ?hg (N := 4) ?hd (cs := LH.toArray) (t := 41) ?hr ?_; (case hd => rfl); (case hg => rfl); (case hr => first | (go_simp; done) | (go_simp; rfl)); intro g4 hg_ w1 hbox_ hb_; have G4 := Aside0.mk hg_; have R4 := Aside0.mk (rangeAt_box hbox_); have T4 := Aside0.mk (there_box hbox_); have B1 := Aside0.mk hb_; have LT4 := Aside0.mk (blk_lt hbox_); clear hg_ hbox_ hb_)
    | ((with_reducible refine gate_dst (N := 8) rfl ?_); refine box_event ?hg (N := 8) ?hd (cs := Z8.toArray) (t := 41) ?hr ?_; (case hd => rfl); (case hg => rfl); (case hr => first | (simp [execOp, Instr.alloc, HAL8.out, newVar, newRow, go_sem]; done) | (simp [execOp, Instr.alloc, HAL8.out, newVar, newRow, go_sem]; rfl)); intro g8 hg_ w2 hbox_ hb_; have G8 := Aside0.mk hg_; have T8 := Aside0.mk (there_box hbox_); have B2 := Aside0.mk hb_; have LT8 := Aside0.mk (blk_lt hbox_); clear hg_ hbox_ hb_)
    | ((with_reducible refine gate_dst (N := 9) rfl ?_); refine box_event ?hg (N := 9) ?hd (cs := Z.toArray) (t := 55) ?hr ?_; (case hd => rfl); (case hg => rfl); (case hr => first | (simp [execOp, Instr.alloc, HAL.out, newVar, newRow, go_sem]; done) | (simp [execOp, Instr.alloc, HAL.out, newVar, newRow, go_sem]; rfl)); intro g9 hg_ w3 hbox_ hb_; have G9 := Aside0.mk hg_; have R9 := Aside0.mk (rangeAt_box hbox_); have T9 := Aside0.mk (there_box hbox_); have B3 := Aside0.mk hb_; have LT9 := Aside0.mk (blk_lt hbox_); clear hg_ hbox_ hb_))
  have a9 : Arr w3 g9 (mTo p 0 0) := ⟨by rw [mTo_zero, ← HZ.out]; exact R9.out, by rw [mTo_length]; have := T9.out; rw [HZl.out] at this; exact this⟩
  have A9 := Aside0.mk a9
  have B03 := Aside0.mk (below_step (below_step B1.out B2.out) B3.out)
  have C3 := Aside0.mk (Kd.C_below HC.out B03.out)
  have N9 : Aside0 (∀ ad, A = some ad → 0 < p.length → ad.block ≠ g9) := ⟨fun ad e _ => by have := HLT.out ad e; have := G9.out; have := B1.out.size; have := B2.out.size; omega⟩
  have G9n : Aside0 (w.heap.size ≤ g9) := ⟨by have := G9.out; have := B1.out.size; have := B2.out.size; omega⟩
  clear a9
  go_wp2
  go_loopw [10] (fun i wr => ∃ x : Int, i = .int .i64 x ∧ (0 ≤ x ∧ x ≤ 16) ∧ Aside0 (Arr wr g9 (mTo p x.toNat 0)) ∧ Aside0 (w3.grownBy wr (some g9)))
    (fun i _ => 16 - (intOf i).toNat)
  case atStart => exact ⟨0, rfl, ⟨by omega, by omega⟩, A9, ⟨World.grownBy.refl _ _⟩⟩
  case round =>
  obtain ⟨x, rfl, ⟨hx0, hx1⟩, HV, HG⟩ := hrel
  by_cases hx : x < 16
  · have d0 : decide (x < 16) = true := decide_eq_true hx
    have xw : wrap64 (x + 1) = x + 1 := by unfold wrap64; omega
    obtain ⟨wA, hwA⟩ : ∃ wA, wA = wr := ⟨_, rfl⟩
    subst hwA
    go_wp2
    go_loopw [11] (fun i wr => ∃ y : Int, i = .int .i64 y ∧ (-1 ≤ y ∧ y ≤ 7) ∧ Aside0 (Arr wr g9 (mTo p x.toNat (7 - y).toNat)) ∧ Aside0 (w3.grownBy wr (some g9)))
      (fun i _ => (intOf i + 1).toNat)
    case atStart => exact ⟨7, rfl, ⟨by omega, by omega⟩, HV, HG⟩
    case round =>
      obtain ⟨y, rfl, ⟨hy0, hy1⟩, HV2, HG2⟩ := hrel
      by_cases hy : y ≥ 0
      · have d1 : decide (y ≥ 0) = true := decide_eq_true hy
        have yw : wrap64 (y - 1) = y - 1 := by unfold wrap64; omega
        obtain ⟨j, hj⟩ : ∃ j, j = (7 - y).toNat := ⟨_, rfl⟩
        have hjy : (7 - (y - 1)).toNat = j + 1 := by omega
        obtain ⟨q, hq⟩ : ∃ q : Int, q = 8 * x + y := ⟨_, rfl⟩
        have q0 : 0 ≤ q := by omega
        have q1 : q < (p.length : Int) := by omega
        have q2 : q < 128 := by omega
        have qw1 : wrap64 (8 * x) = 8 * x := by unfold wrap64; omega
        have qw2 : wrap64 (8 * x + y) = q := by rw [← hq]; unfold wrap64; omega
        obtain ⟨ad, rfl, s1⟩ := C_cell (C_grown C3.out HG2.out N9.out) q.toNat (by omega) rfl
        obtain ⟨bv, hbv⟩ : ∃ b, b = p.getD q.toNat 0 := ⟨_, rfl⟩
        rw [← hbv] at s1
        have bb : 0 ≤ bv ∧ bv < 256 := by
          have hlt : q.toNat < p.length := by omega
          rw [hbv, List.getD_eq_getElem?_getD, List.getElem?_eq_getElem hlt]
          exact HBy.out _ (List.getElem_mem hlt)
        have bw : IntKind.u64.wrap bv = bv := by rw [IntKind.wrap_u64]; omega
        obtain ⟨v_p, hv_p⟩ : ∃ v, v = wordP p x.toNat j := ⟨_, rfl⟩
        have hm := HV2.out
        rw [← hj] at hm
        have s0 := hm.cell x.toNat (by rw [mTo_length]; omega)
        rw [mTo_get _ _ _ (by omega), ← hv_p] at s0
        have s2 := hm.frozen x.toNat (by rw [mTo_length]; omega)
        obtain ⟨sv, hsv⟩ : ∃ v, shl .u64 v_p 8 = v := ⟨_, rfl⟩
        have hsv2 : IntKind.u64.wrap (v_p * 256) = sv := hsv
        have n2_ := hm.drew.set x.toNat (by rw [mTo_length]; omega) (Go.bits .or .u64 sv bv)
        rw [← hsv, hv_p, hbv, show q.toNat = 8 * x.toNat + (7 - j) by omega] at n2_
        rw [show Go.bits .or .u64 (shl .u64 (wordP p x.toNat j) 8) (p.getD (8 * x.toNat + (7 - j)) 0) = wordP p x.toNat (j + 1) from rfl, mTo_set] at n2_
        have N2 := Aside0.mk n2_
        have HJ := Aside0.mk hjy
        have E2 : Aside0 (wordP p x.toNat (j + 1) = Go.bits .or .u64 sv bv) := ⟨by rw [← hsv, hv_p, hbv, show q.toNat = 8 * x.toNat + (7 - j) by omega]; rfl⟩
        clear hm hj hbv hv_p hsv n2_ hq HV2 hjy
        go_upto_region 8 with (fail)
        refine start_ (n := 16) (S := fun w' => w'.cell? ⟨g9, x.toNat, none⟩ = some (.int .u64 v_p) ∧ w'.cell? (ad.add q.toNat) = some (.int .u8 bv) ∧ w'.frozen? ⟨g9, x.toNat, none⟩ = false) (ds := [15]) #[false, false, false, false, false, false, false, false, false, false, false, false, false, false, false, false] (by kernel_rfl) rfl rfl ⟨s0, s1, s2⟩ (fun hHeld => ?_)
        refine with_tabW ref_block_r8.tab ref_block_r8.bits (fun HT_ HW_ => ?_)
        refine pure_ (i := 0) (N := some 28) (v := ?_) (a' := ?_) ref_block_r8.l0 rfl rfl (any_of HT_.out (by kernel_rfl)) (fun _ _ _ h => h) (Or.inl ⟨by rfl, ?_⟩) ?_ ?_
        rotate_left
        · intro w'
          go_simp
          with_reducible rfl
        rotate_left
        · simp only [Act.put, List.setIfInBounds_toArray, List.set_cons_zero, List.set_cons_succ, i64_w, i32_w]
          rfl
        refine pure_ (i := 1) (N := some 29) (v := ?_) (a' := ?_) ref_block_r8.l1 rfl rfl (any_of HT_.out (by kernel_rfl)) (fun _ _ _ h => h) (Or.inl ⟨by rfl, ?_⟩) ?_ ?_
        rotate_left
        · intro w'
          go_simp
          with_reducible rfl
        rotate_left
        · simp only [Act.put, List.setIfInBounds_toArray, List.set_cons_zero, List.set_cons_succ, i64_w, i32_w]
          rfl
        refine pure_ (i := 2) (N := some 30) (v := ?_) (a' := ?_) ref_block_r8.l2 rfl rfl (any_of HT_.out (by kernel_rfl)) (fun _ _ _ h => h) (Or.inl ⟨by rfl, ?_⟩) ?_ ?_
        rotate_left
        · intro w'
          go_simp
          with_reducible rfl
        rotate_left
        · simp only [Act.put, List.setIfInBounds_toArray, List.set_cons_zero, List.set_cons_succ, i64_w, i32_w]
          rfl
        refine take_ (i := 3) (N := some 31) (v := ?_) (a' := ?_) ref_block_r8.l3 rfl rfl (take_ofW HT_.out HW_.out (by kernel_rfl)) (fun _ _ _ h => h) (Or.inl ⟨by rfl, ?_⟩) hHeld ?_ ?_
        rotate_left
        · intro w' hs_
          obtain ⟨s0, s1, s2⟩ := hs_
          go_simp
          with_reducible rfl
        rotate_left
        · simp only [Act.put, List.setIfInBounds_toArray, List.set_cons_zero, List.set_cons_succ, i64_w, i32_w]
          rfl
        refine pure_ (i := 4) (N := some 32) (v := ?_) (a' := ?_) ref_block_r8.l4 rfl rfl (any_of HT_.out (by kernel_rfl)) (fun _ _ _ h => h) (Or.inl ⟨by rfl, ?_⟩) ?_ ?_
        rotate_left
        · intro w'
          go_simp
          with_reducible rfl
        rotate_left
        · simp only [Act.put, List.setIfInBounds_toArray, List.set_cons_zero, List.set_cons_succ, i64_w, i32_w]
          rfl
        refine pure_ (i := 5) (N := some 33) (v := ?_) (a' := ?_) ref_block_r8.l5 rfl rfl (any_of HT_.out (by kernel_rfl)) (fun _ _ _ h => h) (Or.inl ⟨by rfl, ?_⟩) ?_ ?_
        rotate_left
        · intro w'
          go_simp
          with_reducible rfl
        rotate_left
        · simp only [Act.put, List.setIfInBounds_toArray, List.set_cons_zero, List.set_cons_succ, i64_w, i32_w]
          rfl
        refine pure_ (i := 6) (N := some 34) (v := ?_) (a' := ?_) ref_block_r8.l6 rfl rfl (any_of HT_.out (by kernel_rfl)) (fun _ _ _ h => h) (Or.inl ⟨by rfl, ?_⟩) ?_ ?_
        rotate_left
        · intro w'
          go_simp
          with_reducible rfl
        rotate_left
        · simp only [Act.put, List.setIfInBounds_toArray, List.set_cons_zero, List.set_cons_succ, i64_w, i32_w]
          rfl
        refine pure_ (i := 7) (N := some 35) (v := ?_) (a' := ?_) ref_block_r8.l7 rfl rfl (any_of HT_.out (by kernel_rfl)) (fun _ _ _ h => h) (Or.inl ⟨by rfl, ?_⟩) ?_ ?_
        rotate_left
        · intro w'
          go_simp
          with_reducible rfl
        rotate_left
        · simp only [Act.put, List.setIfInBounds_toArray, List.set_cons_zero, List.set_cons_succ, i64_w, i32_w]
          rfl
        refine pure_ (i := 8) (N := some 36) (v := ?_) (a' := ?_) ref_block_r8.l8 rfl rfl (any_of HT_.out (by kernel_rfl)) (fun _ _ _ h => h) (Or.inl ⟨by rfl, ?_⟩) ?_ ?_
        rotate_left
        · intro w'
          go_simp
          with_reducible rfl
        rotate_left
        · simp only [Act.put, List.setIfInBounds_toArray, List.set_cons_zero, List.set_cons_succ, i64_w, i32_w]
          rfl
        refine pure_ (i := 9) (N := some 37) (v := ?_) (a' := ?_) ref_block_r8.l9 rfl rfl (any_of HT_.out (by kernel_rfl)) (fun _ _ _ h => h) (Or.inl ⟨by rfl, ?_⟩) ?_ ?_
        rotate_left
        · intro w'
          go_simp
          with_reducible rfl
        rotate_left
        · simp only [Act.put, List.setIfInBounds_toArray, List.set_cons_zero, List.set_cons_succ, i64_w, i32_w]
          rfl
        refine pure_ (i := 10) (N := some 38) (v := ?_) (a' := ?_) ref_block_r8.l10 rfl rfl (any_of HT_.out (by kernel_rfl)) (fun _ _ _ h => h) (Or.inl ⟨by rfl, ?_⟩) ?_ ?_
        rotate_left
        · intro w'
          go_simp
          with_reducible rfl
        rotate_left
        · simp only [Act.put, List.setIfInBounds_toArray, List.set_cons_zero, List.set_cons_succ, i64_w, i32_w]
          rfl
        refine take_ (i := 11) (N := some 39) (v := ?_) (a' := ?_) ref_block_r8.l11 rfl rfl (take_ofW HT_.out HW_.out (by kernel_rfl)) (fun _ _ _ h => h) (Or.inl ⟨by rfl, ?_⟩) hHeld ?_ ?_
        rotate_left
        · intro w' hs_
          obtain ⟨s0, s1, s2⟩ := hs_
          go_simp
          with_reducible rfl
        rotate_left
        · simp only [Act.put, List.setIfInBounds_toArray, List.set_cons_zero, List.set_cons_succ, i64_w, i32_w]
          rfl
        refine pure_ (i := 12) (N := some 40) (v := ?_) (a' := ?_) ref_block_r8.l12 rfl rfl (any_of HT_.out (by kernel_rfl)) (fun _ _ _ h => h) (Or.inl ⟨by rfl, ?_⟩) ?_ ?_
        rotate_left
        · intro w'
          go_simp
          with_reducible rfl
        rotate_left
        · simp only [Act.put, List.setIfInBounds_toArray, List.set_cons_zero, List.set_cons_succ, i64_w, i32_w]
          rfl
        refine pure_ (i := 13) (N := some 41) (v := ?_) (a' := ?_) ref_block_r8.l13 rfl rfl (any_of HT_.out (by kernel_rfl)) (fun _ _ _ h => h) (Or.inl ⟨by rfl, ?_⟩) ?_ ?_
        rotate_left
        · intro w'
          go_simp
          with_reducible rfl
        rotate_left
        · simp only [Act.put, List.setIfInBounds_toArray, List.set_cons_zero, List.set_cons_succ, i64_w, i32_w]
          rfl
        refine pure_ (i := 14) (N := some 42) (v := ?_) (a' := ?_) ref_block_r8.l14 rfl rfl (any_of HT_.out (by kernel_rfl)) (fun _ _ _ h => h) (Or.inl ⟨by rfl, ?_⟩) ?_ ?_
        rotate_left
        · intro w'
          go_simp
          with_reducible rfl
        rotate_left
        · simp only [Act.put, List.setIfInBounds_toArray, List.set_cons_zero, List.set_cons_succ, i64_w, i32_w]
          rfl
        refine last_ (i := 15) (N := none) ref_block_r8.l15 rfl rfl (one_of HT_.out (by kernel_rfl)) (by decide) (fun K hK => ?_)
        clear hHeld
        refine skip_ (w1 := World.setCell wr.drew ⟨g9, x.toNat, none⟩ (.int .u64 (Go.bits .or .u64 sv bv))) (by rfl) rfl ?_ ?_
        · go_simp
        refine hK.out _ _ ?_
        clear hK K
        refine done_ (done_of HT_.out (by kernel_rfl)) ?_
        clear HT_ HW_
        rw [← E2.out]
        have n1_ := grown_set (grown_drew HG2.out) x.toNat (.int .u64 (wordP p x.toNat (j + 1)))
        have n3_ := N2.out
        generalize World.setCell _ _ _ = wn at n1_ n3_ ⊢
        have HA2 := Aside0.mk n3_
        have HG3 := Aside0.mk n1_
        clear n1_ n3_ s0 s1 s2 N2
        go_wp2
        exact ⟨⟨y - 1, by first | rfl | (rw [yw]) | (simp [yw]), ⟨by omega, by omega⟩, by rw [HJ.out]; exact HA2, HG3⟩, by simp [intOf]; omega⟩
      · have d1 : decide (y ≥ 0) = false := decide_eq_false hy
        have hy9 : y = -1 := by omega
        subst hy9
        have HA2 : Aside0 (Arr wr g9 (mTo p (x + 1).toNat 0)) := ⟨by have := HV2.out; rw [show (7 - (-1 : Int)).toNat = 8 from rfl, mTo_next] at this; rw [show (x + 1).toNat = x.toNat + 1 by omega]; exact this⟩
        go_wp2
        exact ⟨⟨x + 1, by first | rfl | (rw [xw]) | (simp [xw]), ⟨by omega, by omega⟩, HA2, HG2⟩, by simp [intOf]; omega⟩
  · have d0 : decide (x < 16) = false := decide_eq_false hx
    have hx9 : x = 16 := by omega
    subst hx9
    obtain ⟨M, hM⟩ : ∃ M, M = wordsR p := ⟨_, rfl⟩
    have hm := HV.out
    rw [show (16 : Int).toNat = 16 from rfl, mTo_all, ← hM] at hm
    have A9f := Aside0.mk hm
    have HM := Aside0.mk hM
    have HMl : Aside0 (M.length = 16) := ⟨by rw [hM]; simp [wordsR]⟩
    have LT9f := Aside0.mk (hm.lt (by rw [HMl.out]; decide))
    obtain ⟨wA, hwA⟩ : ∃ wA, wA = wr := ⟨_, rfl⟩
    subst hwA
    have R4a := Aside0.mk (rangeAt_block R4.out (((below_step B2.out B3.out).block g4 LT4.out)))
    have ne49 : g4 ≠ g9 := by have := G9.out; have := LT4.out; have := B2.out.size; omega
    have ne89 : g8 ≠ g9 := by have := G9.out; have := LT8.out; omega
    have ne48 : g4 ≠ g8 := by have := G8.out; have := LT4.out; omega
    have LT4a : g4 < w3.heap.size := Nat.lt_of_lt_of_le LT4.out (below_step B2.out B3.out).size
    have LT8a : g8 < w3.heap.size := Nat.lt_of_lt_of_le LT8.out B3.out.size
    have a4 : Arr w3 g4 H := by
      refine ⟨by rw [← HLH.out]; exact R4a.out, ?_⟩
      have := there_of_below T4.out (below_step B2.out B3.out) LT4.out
      rwa [HLHl.out, ← HHl.out] at this
    have A4 := Aside0.mk (a4.grown (by rw [HHl.out]; decide) HG.out (by simpa using ne49))
    have T8a := Aside0.mk (there_of_block (there_of_below T8.out B3.out LT8.out) (HG.out.block g8 LT8a (by simpa using ne89)))
    have G0 := Aside0.mk (B03.out.grown HG.out B03.out.size (fun j hj => by cases hj; exact G9n.out))
    have LT4f := Aside0.mk (Nat.lt_of_lt_of_le LT4a HG.out.size)
    have LT8f := Aside0.mk (Nat.lt_of_lt_of_le LT8a HG.out.size)
    have NE48 := Aside0.mk ne48
    have G4n : Aside0 (w.heap.size ≤ g4) := ⟨by have := G4.out; omega⟩
    have G8n : Aside0 (w.heap.size ≤ g8) := ⟨by have := G8.out; have := B1.out.size; omega⟩
    clear hm hM HV HG hx hx0 hx1 a4 ne49 ne89 ne48 LT4a LT8a
    go_upto_region 11 with (first
      | ((with_reducible refine gate_dst (N := 12) rfl ?_); refine box_event ?hg (N := 12) ?hd (cs := Z.toArray) (t := 55) ?hr ?_; (case hd => rfl); (case hg => rfl); (case hr => first | (simp [execOp, Instr.alloc, HAL.out, newVar, newRow, go_sem]; done) | (simp [execOp, Instr.alloc, HAL.out, newVar, newRow, go_sem]; rfl)); intro g12 hg_ w4 hbox_ hb_; have G12 := Aside0.mk hg_; have R12 := Aside0.mk (rangeAt_box hbox_); have T12 := Aside0.mk (there_box hbox_); have B4 := Aside0.mk hb_; have LT12 := Aside0.mk (blk_lt hbox_); clear hg_ hbox_ hb_)
      | (go_at_call 20; with_reducible refine (HBE.out _).mono ?_; rintro e w5 ⟨rfl, hb_⟩; have B5 := Aside0.mk hb_; clear hb_)
      | ((with_reducible refine gate_dst (N := 13) rfl ?_); refine box_event ?hg (N := 13) ?hd (cs := Z8.toArray) (t := 41) ?hr ?_; (case hd => rfl); (case hg => rfl); (case hr => first | (simp [execOp, Instr.alloc, HAL8.out, newVar, newRow, go_sem]; done) | (simp [execOp, Instr.alloc, HAL8.out, newVar, newRow, go_sem]; rfl)); intro g13 hg_ w6 hbox_ hb_; have G13 := Aside0.mk hg_; have T13 := Aside0.mk (there_box hbox_); have B6 := Aside0.mk hb_; have LT13 := Aside0.mk (blk_lt hbox_); clear hg_ hbox_ hb_)
      | ((with_reducible refine gate_store (t := 41) (p := 13) rfl ?_); refine wpList_store_mid rfl 41 _ _ rfl g13 0 L8.toArray rfl rfl (by rw [List.size_toArray, HL8l.out, ← HZ8l.out]; exact T13.out) (by rw [List.size_toArray, HL8l.out]; exact size_of info_a8) (all_oneCell_toArray HL8o.out) ?_))
    have n0_ := World.rangeAt_setCells_same w6 g13 0 L8 (by rw [HL8l.out, ← HZ8l.out]; exact T13.out)
    have n1_ := below_setCells g13 (by have := G13.out; have := B5.out.size; omega) L8 0 w6 (below_step B5.out B6.out)
    have n2_ : g13 < (w6.setCells g13 0 L8).heap.size := Nat.lt_of_lt_of_le LT13.out (below_setCells (B := 0) g13 (Nat.zero_le _) L8 0 w6 (Below.refl 0 w6)).size
    generalize World.setCells _ _ _ _ = w7 at n0_ n1_ n2_ ⊢
    have R13 := Aside0.mk n0_
    have B7 := Aside0.mk n1_
    have LT13' := Aside0.mk n2_
    clear n0_ n1_ n2_
    have B47 := Aside0.mk (below_step B4.out B7.out)
    have A4b := Aside0.mk (A4.out.below B47.out LT4f.out)
    have A9b := Aside0.mk (A9f.out.below B47.out LT9f.out)
    have T8b := Aside0.mk (there_of_below T8a.out B47.out LT8f.out)
    have G1b := Aside0.mk (below_step G0.out B47.out)
    have a12 : Arr w4 g12 (vTo H 0) := ⟨by rw [vTo_zero, ← HZ.out]; exact R12.out, by rw [vTo_length]; have := T12.out; rw [HZl.out] at this; exact this⟩
    have A12 := Aside0.mk (a12.below B7.out LT12.out)
    have ne1 : g12 ≠ g4 := by have := G12.out; have := LT4f.out; omega
    have ne2 : g12 ≠ g9 := by have := G12.out; have := LT9f.out; omega
    have ne3 : g12 ≠ g8 := by have := G12.out; have := LT8f.out; omega
    have ne4 : g13 ≠ g12 := by have := G13.out; have := B5.out.size; have := LT12.out; omega
    have N1 := Aside0.mk ne1
    have N2 := Aside0.mk ne2
    have N3 := Aside0.mk ne3
    have N4 := Aside0.mk ne4
    have LT12b := Aside0.mk (A12.out.lt (by rw [vTo_length]; decide))
    have LT4b := Aside0.mk (A4b.out.lt (by rw [HHl.out]; decide))
    have LT9b := Aside0.mk (A9b.out.lt (by rw [HMl.out]; decide))
    have LT8b : Aside0 (g8 < w7.heap.size) := ⟨Nat.lt_of_lt_of_le LT8f.out B47.out.size⟩
    have G12n : Aside0 (w.heap.size ≤ g12) := ⟨by have := G12.out; have := G0.out.size; omega⟩
    clear a12 ne1 ne2 ne3 ne4
    go_wp2
    go_loopw [14] (fun i wr => ∃ x : Int, i = .int .i64 x ∧ (0 ≤ x ∧ x ≤ 8) ∧ Aside0 (Arr wr g12 (vTo H x.toNat)) ∧ Aside0 (w7.grownBy wr (some g12)))
      (fun i _ => 8 - (intOf i).toNat)
    case atStart => exact ⟨0, rfl, ⟨by omega, by omega⟩, A12, ⟨World.grownBy.refl _ _⟩⟩
    case round =>
    obtain ⟨x, rfl, ⟨hx0, hx1⟩, HV, HG⟩ := hrel
    by_cases hx : x < 8
    · have d0 : decide (x < 8) = true := decide_eq_true hx
      have xw : wrap64 (x + 1) = x + 1 := by unfold wrap64; omega
      obtain ⟨y, hy⟩ : ∃ y, y = x + 8 := ⟨_, rfl⟩
      have yw : wrap64 (x + 8) = y := by rw [hy]; unfold wrap64; omega
      have y0 : 0 ≤ y := by omega
      have y1 : y < 16 := by omega
      have x16 : x < 16 := by omega
      have yn : y.toNat = x.toNat + 8 := by omega
      have yw2 : IntKind.i64.wrap (x + 8) = y := by rw [hy]; exact IntWalk.i64_in _ (by omega)
      have ne5 : g4 ≠ g12 := fun e => N1.out e.symm
      have ne6 : g13 ≠ g12 := N4.out
      have ne7 : g12 ≠ g4 := N1.out
      have ne8 : g12 ≠ g13 := fun e => N4.out e.symm
      obtain ⟨v_a, hv_a⟩ : ∃ v, v = H.getD x.toNat 0 := ⟨_, rfl⟩
      obtain ⟨v_b, hv_b⟩ : ∃ v, v = beginV.getD x.toNat 0 := ⟨_, rfl⟩
      have s0 := (A4b.out.grown (by rw [HHl.out]; decide) HG.out (by simpa using ne5)).cell x.toNat (by rw [HHl.out]; omega)
      rw [← hv_a] at s0
      have s1 : wr.cell? ⟨g13, x.toNat, none⟩ = some (.int .u64 v_b) := by
        have hb8 : beginV.length = 8 := rfl
        have := rangeAt_block R13.out (HG.out.block g13 LT13'.out (by simpa using ne6)) x.toNat (.int .u64 v_b) (by
          rw [HL8.out, hv_b, List.getElem?_map, List.getElem?_eq_getElem (by omega), List.getD_eq_getElem?_getD, List.getElem?_eq_getElem (by omega)]; rfl)
        rwa [Nat.zero_add] at this
      have s2 := HV.out.frozen x.toNat (by rw [vTo_length]; omega)
      have s3 := HV.out.frozen y.toNat (by rw [vTo_length]; omega)
      obtain ⟨u_x, hu_x⟩ : ∃ v, v = (vTo H x.toNat).getD x.toNat 0 := ⟨_, rfl⟩
      obtain ⟨u_y, hu_y⟩ : ∃ v, v = (vTo H x.toNat).getD y.toNat 0 := ⟨_, rfl⟩
      have s4 := HV.out.cell x.toNat (by rw [vTo_length]; omega)
      rw [← hu_x] at s4
      have s5 := HV.out.cell y.toNat (by rw [vTo_length]; omega)
      rw [← hu_y] at s5
      have nxy : x.toNat ≠ y.toNat := by omega
      have s6 : (wr.setCell ⟨g12, x.toNat, none⟩ (.int .u64 v_a)).cell? ⟨g12, y.toNat, none⟩ = some (.int .u64 u_y) := by
        rw [World.cell?_setCell_other wr _ _ _ (by intro q; have := congrArg (fun a : Addr => a.off) q; simp at this; omega)]; exact s5
      have s7 : (wr.setCell ⟨g12, x.toNat, none⟩ (.int .u64 v_a)).drew.cell? ⟨g12, y.toNat, none⟩ = some (.int .u64 u_y) := s6
      have s8 : (wr.drew.setCell ⟨g12, x.toNat, none⟩ (.int .u64 v_a)).cell? ⟨g12, y.toNat, none⟩ = some (.int .u64 u_y) := s6
      clear hu_x hu_y
      have n0_ := ((HV.out.set x.toNat (by rw [vTo_length]; omega) v_a).set y.toNat (by rw [List.length_set, vTo_length]; omega) v_b).drew
      rw [hv_a, hv_b, yn, vTo_set H x.toNat (by omega), ← hv_a, ← hv_b, ← yn] at n0_
      have n1_ := grown_drew (grown_set (grown_set HG.out x.toNat (.int .u64 v_a)) y.toNat (.int .u64 v_b))
      have N0 := Aside0.mk n0_
      have NG := Aside0.mk n1_
      clear hy yn hv_a hv_b n0_ n1_ HV HG
      go_upto_region 14 with (fail)
      go_region_held3 (fun w' => w'.cell? ⟨g4, x.toNat, none⟩ = some (.int .u64 v_a) ∧ w'.cell? ⟨g13, x.toNat, none⟩ = some (.int .u64 v_b) ∧ w'.frozen? ⟨g12, x.toNat, none⟩ = false ∧ w'.frozen? ⟨g12, y.toNat, none⟩ = false) (go_keep) (fail)
      have n0_ := N0.out
      have n1_ := NG.out
      generalize World.drew _ = wn at n0_ n1_ ⊢
      have HA2 := Aside0.mk n0_
      have HG2 := Aside0.mk n1_
      clear n0_ n1_ N0 NG s0 s1 s2 s3 s4 s5 s6 s7 s8
      go_wp2
      exact ⟨⟨x + 1, by first | rfl | (rw [xw]) | (simp [xw]), ⟨by omega, by omega⟩, by rw [show (x + 1).toNat = x.toNat + 1 by omega]; exact HA2, HG2⟩, by simp [intOf]; omega⟩
    · have d0 : decide (x < 8) = false := decide_eq_false hx
      have hx9 : x = 8 := by omega
      subst hx9
      obtain ⟨V0, hV0⟩ : ∃ V, V = H ++ beginV := ⟨_, rfl⟩
      have hv := HV.out
      rw [show (8 : Int).toNat = 8 from rfl, vTo_all H HHl.out, ← hV0] at hv
      have HV0 := Aside0.mk hV0
      have HV0l : Aside0 (V0.length = 16) := ⟨by rw [hV0, List.length_append, HHl.out]; rfl⟩
      have A12c := Aside0.mk hv
      have K12 := Aside0.mk HG.out
      obtain ⟨wB, hwB⟩ : ∃ wB, wB = wr := ⟨_, rfl⟩
      subst hwB
      obtain ⟨v_p, hv_p⟩ : ∃ v, v = V0.getD 12 0 := ⟨_, rfl⟩
      have s0 := hv.cell 12 (by rw [HV0l.out]; decide)
      have s1 := hv.frozen 12 (by rw [HV0l.out]; decide)
      rw [← hv_p] at s0
      obtain ⟨cw, hcw⟩ : ∃ c, IntKind.u64.wrap cnt = c := ⟨_, rfl⟩
      have Hcw := Aside0.mk hcw
      have Hv_p := Aside0.mk hv_p
      clear hv_p hv hV0 HV HG hx hx0 hx1
      go_upto_region 16 with (fail)
      have n0_ := A12c.out.set 12 (by rw [HV0l.out]; decide) (Go.bits .xor .u64 v_p cw)
      have n1_ := grown_set K12.out 12 (.int .u64 (Go.bits .xor .u64 v_p cw))
      generalize World.setCell _ _ _ = w11 at n0_ n1_ ⊢
      obtain ⟨V1, hV1⟩ : ∃ V, V = V0.set 12 (Go.bits .xor .u64 v_p cw) := ⟨_, rfl⟩
      rw [← hV1] at n0_
      have HV1 := Aside0.mk hV1
      have HV1l : Aside0 (V1.length = 16) := ⟨by rw [hV1, List.length_set]; exact HV0l.out⟩
      have A11 := Aside0.mk n0_
      have K11 := Aside0.mk n1_
      clear n0_ n1_ hV1 s0 s1 hcw
      obtain ⟨v_e, hv_e⟩ : ∃ v, v = V1.getD 14 0 := ⟨_, rfl⟩
      have s0 := A11.out.cell 14 (by rw [HV1l.out]; decide)
      have s1 := A11.out.frozen 14 (by rw [HV1l.out]; decide)
      rw [← hv_e] at s0
      have Hv_e := Aside0.mk hv_e
      clear hv_e
      obtain ⟨w12, V2, hw12, hV2⟩ : ∃ (w12 : World) (V2 : List Int), (w12 = if last then w11.setCell ⟨g12, 14, none⟩ (.int .u64 (notU v_e)) else w11) ∧ V2 = if last then V1.set 14 (notU v_e) else V1 := ⟨_, _, rfl, rfl⟩
      have a12 : Arr w12 g12 V2 := by
        rw [hw12, hV2]
        cases last
        · exact A11.out
        · exact A11.out.set 14 (by rw [HV1l.out]; decide) _
      have k12 : w7.grownBy w12 (some g12) := by
        rw [hw12]
        cases last
        · exact K11.out
        · exact grown_set K11.out 14 _
      have v12 : V2 = vInitR H (IntKind.u64.wrap cnt) last := by
        rw [hV2, Hv_e.out, HV1.out, Hv_p.out, HV0.out, ← Hcw.out]
        rfl
      have A12d := Aside0.mk a12
      have K12d := Aside0.mk k12
      have HV2 := Aside0.mk v12
      have HW12 := Aside0.mk hw12
      have HV2l : Aside0 (V2.length = 16) := ⟨by rw [hV2]; cases last <;> simp [HV1l.out]⟩
      have A4d := Aside0.mk (A4b.out.grown (by rw [HHl.out]; decide) k12 (by have := N1.out; simpa using this.symm))
      have A9d := Aside0.mk (A9b.out.grown (by rw [HMl.out]; decide) k12 (by have := N2.out; simpa using this.symm))
      have T8d := Aside0.mk (there_of_block T8b.out (k12.block g8 LT8b.out (by have := N3.out; simpa using this.symm)))
      have G1d := Aside0.mk (G1b.out.grown k12 G1b.out.size (fun j hj => by cases hj; exact G12n.out))
      have LT4d := Aside0.mk (A4d.out.lt (by rw [HHl.out]; decide))
      have LT9d := Aside0.mk (A9d.out.lt (by rw [HMl.out]; decide))
      have LT8d : Aside0 (g8 < w12.heap.size) := ⟨Nat.lt_of_lt_of_le LT8b.out k12.size⟩
      have HBL : Aside0 (∀ VF, VF = roundsR M (List.range 12) V2 → outR VF (List.range 8) H = blockR H p cnt last) := ⟨fun VF h => by
        rw [h, HV2.out, HM.out]
        unfold blockR
        rfl⟩
      clear a12 k12 v12 hw12 hV2
      cases last
      all_goals (
        go_upto_region 18 with (fail)
        first
          | (rw [← show w12 = w11.setCell ⟨g12, 14, none⟩ (.int .u64 (Go.bits .xor .u64 (if IntKind.u64.signed = true then -1 else IntKind.u64.max) v_e)) from HW12.out])
          | (rw [← show w12 = w11 from HW12.out])
        clear s0 s1
        obtain ⟨VF, hVF⟩ : ∃ V, V = roundsR M (List.range 12) V2 := ⟨_, rfl⟩
        have HVF := Aside0.mk hVF
        have HVFl : Aside0 (VF.length = 16) := ⟨by rw [hVF, roundsR_length]; exact HV2l.out⟩
        clear hVF
        go_wp2
        go_loopw [15] (fun i wr => ∃ x : Int, i = .int .i64 x ∧ (0 ≤ x ∧ x ≤ 12) ∧ Aside0 (∃ V, V.length = 16 ∧ Arr wr g12 V ∧ roundsR M (List.range' x.toNat (12 - x.toNat)) V = VF) ∧ Aside0 (w12.grownBy wr (some g12)))
          (fun i _ => 12 - (intOf i).toNat)
        case atStart => exact ⟨0, rfl, ⟨by omega, by omega⟩, ⟨V2, HV2l.out, A12d.out, by rw [HVF.out, List.range_eq_range']; rfl⟩, ⟨World.grownBy.refl _ _⟩⟩
        case round =>
        obtain ⟨x, rfl, ⟨hx0, hx1⟩, HV, HG⟩ := hrel
        obtain ⟨V, hVl, hV, hR⟩ := HV.out
        by_cases hlt : x < 12
        · have d0 : decide (x < 12) = true := decide_eq_true hlt
          have xw : wrap64 (x + 1) = x + 1 := by unfold wrap64; omega
          obtain ⟨j, hj⟩ : ∃ j, j = x.toNat % 10 := ⟨_, rfl⟩
          have hj10 : j < 10 := by omega
          have hor := ref_order_is ⟨x.toNat, by omega⟩
          rw [show ((⟨x.toNat, by omega⟩ : Fin 12).val : Int) = x from Int.toNat_of_nonneg hx0, show (⟨x.toNat, by omega⟩ : Fin 12).val % 10 = j from hj.symm] at hor
          have HOR := Aside0.mk hor
          have HVA := Aside0.mk hV
          have HVl := Aside0.mk hVl
          have HR := Aside0.mk hR
          have HJ := Aside0.mk hj
          clear hor hV hVl hR hj HV
          go_upto_region 22 with (go_at_call 28; with_reducible refine (althingref2_order.calls _ _ _ HOR.out).mono ?_; rintro e wo ⟨rfl, hd_⟩; have HVo : Aside0 (Arr wo g12 V) := ⟨by obtain ⟨m_, rfl⟩ := hd_; exact HVA.out.drewN m_⟩; have HGo : Aside0 (w12.grownBy wo (some g12)) := ⟨by obtain ⟨m_, rfl⟩ := hd_; exact grown_drewN HG.out m_⟩; clear hd_)
          obtain ⟨S, hS⟩ : ∃ S, S = rowOf j := ⟨_, rfl⟩
          rw [← hS]
          have HS := Aside0.mk hS
          clear hS
          obtain ⟨P, hP⟩ : ∃ P, P = permOf j := ⟨_, rfl⟩
          have HP := Aside0.mk hP
          clear hP HVA HG
          obtain ⟨VA, hVA⟩ : ∃ V', V' = runA M P (List.range 4) V := ⟨_, rfl⟩
          have HVA := Aside0.mk hVA
          have HVAl : Aside0 (VA.length = 16) := ⟨by rw [hVA, runA_length]; exact HVl.out⟩
          clear hVA
          go_wp2
          go_loopw [17] (fun i wr => ∃ k : Int, i = .int .i64 k ∧ (0 ≤ k ∧ k ≤ 4) ∧ Aside0 (∃ V', V'.length = 16 ∧ Arr wr g12 V' ∧ runA M P (List.range' k.toNat (4 - k.toNat)) V' = VA) ∧ Aside0 (w12.grownBy wr (some g12)))
            (fun i _ => 4 - (intOf i).toNat)
          case atStart => exact ⟨0, rfl, ⟨by omega, by omega⟩, ⟨V, HVl.out, HVo.out, by rw [HVA.out, List.range_eq_range']; rfl⟩, HGo⟩
          case round =>
          obtain ⟨k, rfl, ⟨hk0, hk1⟩, HV2', HG2⟩ := hrel
          obtain ⟨V', hVl', hV', hR'⟩ := HV2'.out
          by_cases hk : k < 4
          · have d1 : decide (k < 4) = true := decide_eq_true hk
            have kw : wrap64 (k + 1) = k + 1 := by unfold wrap64; omega
            obtain ⟨ka, hka⟩ : ∃ v, wrap64 (k + 4) = v := ⟨_, rfl⟩
            obtain ⟨kb, hkb⟩ : ∃ v, wrap64 (k + 8) = v := ⟨_, rfl⟩
            obtain ⟨kc, hkc⟩ : ∃ v, wrap64 (k + 12) = v := ⟨_, rfl⟩
            obtain ⟨e1, he1⟩ : ∃ v, wrap64 (2 * k) = v := ⟨_, rfl⟩
            have ka' : ka = k + 4 := by rw [← hka]; unfold wrap64; omega
            have kb' : kb = k + 8 := by rw [← hkb]; unfold wrap64; omega
            have kc' : kc = k + 12 := by rw [← hkc]; unfold wrap64; omega
            have e1' : e1 = 2 * k := by rw [← he1]; unfold wrap64; omega
            obtain ⟨e2, he2⟩ : ∃ v, wrap64 (e1 + 1) = v := ⟨_, rfl⟩
            have e2' : e2 = 2 * k + 1 := by rw [← he2]; unfold wrap64; omega
            obtain ⟨b1, p1, hx1, hd1, hp0, hp1, hpn⟩ := ref_word j hj10 e1 (by omega) (by omega)
            obtain ⟨b2, p2, hx2, hd2, hq0, hq1, hqn⟩ := ref_word j hj10 e2 (by omega) (by omega)
            rw [← HS.out] at hx1 hx2
            have hm := A9d.out.grown (by rw [HMl.out]; decide) HG2.out (by have := N2.out; simpa using this.symm)
            obtain ⟨m1, hm1⟩ : ∃ v, v = M.getD p1.toNat 0 := ⟨_, rfl⟩
            obtain ⟨m2, hm2⟩ : ∃ v, v = M.getD p2.toNat 0 := ⟨_, rfl⟩
            have s0 := hm.cell p1.toNat (by rw [HMl.out]; omega)
            have s1 := hm.cell p2.toNat (by rw [HMl.out]; omega)
            rw [← hm1] at s0
            rw [← hm2] at s1
            have HD1 := Aside0.mk hd1
            have HD2 := Aside0.mk hd2
            have HA' := Aside0.mk hV'
            have HMX := Aside0.mk (fun w hA => ref_mix_i g12 V' k (wrap64 (k + 4)) (wrap64 (k + 8)) (wrap64 (k + 12)) m1 m2 w ⟨hk0, by omega⟩ (by rw [hka]; omega) (by rw [hkb]; omega) (by rw [hkc]; omega) hVl' hA)
            have HE : Aside0 (ref_mix.f V' k.toNat (wrap64 (k + 4)).toNat (wrap64 (k + 8)).toNat (wrap64 (k + 12)).toNat m1 m2 = halfA M P V' k.toNat) := ⟨by
              rw [hka, hkb, hkc, hm1, hm2, hpn, hqn, ← HP.out, show ka.toNat = k.toNat + 4 by omega, show kb.toNat = k.toNat + 8 by omega, show kc.toNat = k.toNat + 12 by omega, show e1.toNat = 2 * k.toNat by omega, show e2.toNat = 2 * k.toNat + 1 by omega]
              rfl⟩
            have HR' := Aside0.mk hR'
            have HVl' := Aside0.mk hVl'
            clear ka' kb' kc' e1' e2' hd1 hd2 hm hm1 hm2 hpn hqn hV' hR' hVl' HV2'
            go_upto_region 25 with (fail)
            refine start_ (n := 23) (S := fun w' => w'.cell? ⟨g9, p1.toNat, none⟩ = some (.int .u64 m1) ∧ w'.cell? ⟨g9, p2.toNat, none⟩ = some (.int .u64 m2)) (ds := [22]) #[false, false, false, false, false, false, false, false, false, false, false, false, false, false, false, false, false, false, false, false, false, false, false] (by kernel_rfl) rfl rfl ⟨s0, s1⟩ (fun hHeld => ?_)
            refine with_tabW ref_block_r25.tab ref_block_r25.bits (fun HT_ HW_ => ?_)
            refine pure_ (i := 0) (N := some 80) (v := ?_) (a' := ?_) ref_block_r25.l0 rfl rfl (any_of HT_.out (by kernel_rfl)) (fun _ _ _ h => h) (Or.inl ⟨by rfl, ?_⟩) ?_ ?_
            rotate_left
            · intro w'
              go_simp
              with_reducible rfl
            rotate_left
            · simp only [Act.put, List.setIfInBounds_toArray, List.set_cons_zero, List.set_cons_succ, i64_w, i32_w]
              rfl
            refine pure_ (i := 1) (N := some 81) (v := ?_) (a' := ?_) ref_block_r25.l1 rfl rfl (any_of HT_.out (by kernel_rfl)) (fun _ _ _ h => h) (Or.inl ⟨by rfl, ?_⟩) ?_ ?_
            rotate_left
            · intro w'
              go_simp
              with_reducible rfl
            rotate_left
            · simp only [Act.put, List.setIfInBounds_toArray, List.set_cons_zero, List.set_cons_succ, i64_w, i32_w]
              rfl
            refine pure_ (i := 2) (N := some 82) (v := ?_) (a' := ?_) ref_block_r25.l2 rfl rfl (any_of HT_.out (by kernel_rfl)) (fun _ _ _ h => h) (Or.inl ⟨by rfl, ?_⟩) ?_ ?_
            rotate_left
            · intro w'
              go_simp
              with_reducible rfl
            rotate_left
            · simp only [Act.put, List.setIfInBounds_toArray, List.set_cons_zero, List.set_cons_succ, i64_w, i32_w]
              rfl
            refine pure_ (i := 3) (N := some 83) (v := ?_) (a' := ?_) ref_block_r25.l3 rfl rfl (any_of HT_.out (by kernel_rfl)) (fun _ _ _ h => h) (Or.inl ⟨by rfl, ?_⟩) ?_ ?_
            rotate_left
            · intro w'
              go_simp
              with_reducible rfl
            rotate_left
            · simp only [Act.put, List.setIfInBounds_toArray, List.set_cons_zero, List.set_cons_succ, i64_w, i32_w]
              rfl
            refine pure_ (i := 4) (N := some 84) (v := ?_) (a' := ?_) ref_block_r25.l4 rfl rfl (any_of HT_.out (by kernel_rfl)) (fun _ _ _ h => h) (Or.inl ⟨by rfl, ?_⟩) ?_ ?_
            rotate_left
            · intro w'
              go_simp
              with_reducible rfl
            rotate_left
            · simp only [Act.put, List.setIfInBounds_toArray, List.set_cons_zero, List.set_cons_succ, i64_w, i32_w]
              rfl
            refine pure_ (i := 5) (N := some 85) (v := ?_) (a' := ?_) ref_block_r25.l5 rfl rfl (any_of HT_.out (by kernel_rfl)) (fun _ _ _ h => h) (Or.inl ⟨by rfl, ?_⟩) ?_ ?_
            rotate_left
            · intro w'
              go_simp
              with_reducible rfl
            rotate_left
            · simp only [Act.put, List.setIfInBounds_toArray, List.set_cons_zero, List.set_cons_succ, i64_w, i32_w]
              rfl
            refine pure_ (i := 6) (N := some 86) (v := ?_) (a' := ?_) ref_block_r25.l6 rfl rfl (any_of HT_.out (by kernel_rfl)) (fun _ _ _ h => h) (Or.inl ⟨by rfl, ?_⟩) ?_ ?_
            rotate_left
            · intro w'
              go_simp
              with_reducible rfl
            rotate_left
            · simp only [Act.put, List.setIfInBounds_toArray, List.set_cons_zero, List.set_cons_succ, i64_w, i32_w]
              rfl
            refine pure_ (i := 7) (N := some 87) (v := ?_) (a' := ?_) ref_block_r25.l7 rfl rfl (any_of HT_.out (by kernel_rfl)) (fun _ _ _ h => h) (Or.inl ⟨by rfl, ?_⟩) ?_ ?_
            rotate_left
            · intro w'
              go_simp
              with_reducible rfl
            rotate_left
            · simp only [Act.put, List.setIfInBounds_toArray, List.set_cons_zero, List.set_cons_succ, i64_w, i32_w]
              rfl
            refine pure_ (i := 8) (N := some 88) (v := ?_) (a' := ?_) ref_block_r25.l8 rfl rfl (any_of HT_.out (by kernel_rfl)) (fun _ _ _ h => h) (Or.inl ⟨by rfl, ?_⟩) ?_ ?_
            rotate_left
            · intro w'
              go_simp
              with_reducible rfl
            rotate_left
            · simp only [Act.put, List.setIfInBounds_toArray, List.set_cons_zero, List.set_cons_succ, i64_w, i32_w]
              rfl
            refine pure_ (i := 9) (N := some 89) (v := ?_) (a' := ?_) ref_block_r25.l9 rfl rfl (any_of HT_.out (by kernel_rfl)) (fun _ _ _ h => h) (Or.inl ⟨by rfl, ?_⟩) ?_ ?_
            rotate_left
            · intro w'
              go_simp
              with_reducible rfl
            rotate_left
            · simp only [Act.put, List.setIfInBounds_toArray, List.set_cons_zero, List.set_cons_succ, i64_w, i32_w]
              rfl
            refine pure_ (i := 10) (N := some 90) (v := ?_) (a' := ?_) ref_block_r25.l10 rfl rfl (any_of HT_.out (by kernel_rfl)) (fun _ _ _ h => h) (Or.inl ⟨by rfl, ?_⟩) ?_ ?_
            rotate_left
            · intro w'
              go_simp
              with_reducible rfl
            rotate_left
            · simp only [Act.put, List.setIfInBounds_toArray, List.set_cons_zero, List.set_cons_succ, i64_w, i32_w]
              rfl
            refine pure_ (i := 14) (N := some 94) (v := ?_) (a' := ?_) ref_block_r25.l11 rfl rfl (any_of HT_.out (by kernel_rfl)) (fun _ _ _ h => h) (Or.inl ⟨by rfl, ?_⟩) ?_ ?_
            rotate_left
            · intro w'
              go_simp
              with_reducible rfl
            rotate_left
            · simp only [Act.put, List.setIfInBounds_toArray, List.set_cons_zero, List.set_cons_succ, i64_w, i32_w]
              rfl
            refine pure_ (i := 15) (N := some 95) (v := ?_) (a' := ?_) ref_block_r25.l12 rfl rfl (any_of HT_.out (by kernel_rfl)) (fun _ _ _ h => h) (Or.inl ⟨by rfl, ?_⟩) ?_ ?_
            rotate_left
            · intro w'
              go_simp
              with_reducible rfl
            rotate_left
            · simp only [Act.put, List.setIfInBounds_toArray, List.set_cons_zero, List.set_cons_succ, i64_w, i32_w]
              rfl
            refine pure_ (i := 16) (N := some 96) (v := ?_) (a' := ?_) ref_block_r25.l13 rfl rfl (any_of HT_.out (by kernel_rfl)) (fun _ _ _ h => h) (Or.inl ⟨by rfl, ?_⟩) ?_ ?_
            rotate_left
            · intro w'
              go_simp
              with_reducible rfl
            rotate_left
            · simp only [Act.put, List.setIfInBounds_toArray, List.set_cons_zero, List.set_cons_succ, i64_w, i32_w]
              rfl
            refine pure_ (i := 17) (N := some 97) (v := ?_) (a' := ?_) ref_block_r25.l14 rfl rfl (any_of HT_.out (by kernel_rfl)) (fun _ _ _ h => h) (Or.inl ⟨by rfl, ?_⟩) ?_ ?_
            rotate_left
            · intro w'
              go_simp
              with_reducible rfl
            rotate_left
            · simp only [Act.put, List.setIfInBounds_toArray, List.set_cons_zero, List.set_cons_succ, i64_w, i32_w]
              rfl
            refine pure_ (i := 18) (N := some 98) (v := ?_) (a' := ?_) ref_block_r25.l15 rfl rfl (any_of HT_.out (by kernel_rfl)) (fun _ _ _ h => h) (Or.inl ⟨by rfl, ?_⟩) ?_ ?_
            rotate_left
            · intro w'
              go_simp
              with_reducible rfl
            rotate_left
            · simp only [Act.put, List.setIfInBounds_toArray, List.set_cons_zero, List.set_cons_succ, i64_w, i32_w]
              rfl
            refine one_ (i := 11) (N := some 91) ref_block_r25.l16 rfl rfl (one_of HT_.out (by kernel_rfl)) (by decide) (fun K hK => ?_)
            refine goes_ Tryd.func30 (by kernel_rfl) rfl #[.int .u8 b1] (by rfl) rfl rfl (by (try simp only [List.map_toArray, List.map_cons, List.map_nil]); first | done | rfl) ?_
            refine (althingref2_digit.calls _ _ _ HD1.out).mono ?_
            rintro e w9 ⟨rfl, ⟨m_, rfl⟩⟩
            refine ⟨_, rfl, ?_⟩
            refine hK.out _ _ hHeld (fun hHeld => ?_)
            clear hK K
            refine norm_ (a' := ?_) ?_ ?_
            rotate_left
            · show Act.put _ (some 91) _ = _
              simp only [Act.put, List.setIfInBounds_toArray, List.set_cons_zero, List.set_cons_succ, i64_w, i32_w]
              rfl
            refine pure_ (i := 12) (N := some 92) (v := ?_) (a' := ?_) ref_block_r25.l17 rfl rfl (any_of HT_.out (by kernel_rfl)) (fun _ _ _ h => h) (Or.inl ⟨by rfl, ?_⟩) ?_ ?_
            rotate_left
            · intro w'
              go_simp
              with_reducible rfl
            rotate_left
            · simp only [Act.put, List.setIfInBounds_toArray, List.set_cons_zero, List.set_cons_succ, i64_w, i32_w]
              rfl
            refine take_ (i := 13) (N := some 93) (v := ?_) (a' := ?_) ref_block_r25.l18 rfl rfl (take_ofW HT_.out HW_.out (by kernel_rfl)) (fun _ _ _ h => h) (Or.inl ⟨by rfl, ?_⟩) hHeld ?_ ?_
            rotate_left
            · intro w' hs_
              obtain ⟨s0, s1⟩ := hs_
              go_simp
              with_reducible rfl
            rotate_left
            · simp only [Act.put, List.setIfInBounds_toArray, List.set_cons_zero, List.set_cons_succ, i64_w, i32_w]
              rfl
            refine one_ (i := 19) (N := some 99) ref_block_r25.l19 rfl rfl (one_of HT_.out (by kernel_rfl)) (by decide) (fun K hK => ?_)
            refine goes_ Tryd.func30 (by kernel_rfl) rfl #[.int .u8 b2] (by rfl) rfl rfl (by (try simp only [List.map_toArray, List.map_cons, List.map_nil]); first | done | rfl) ?_
            refine (althingref2_digit.calls _ _ _ HD2.out).mono ?_
            rintro e w9 ⟨rfl, ⟨m_, rfl⟩⟩
            refine ⟨_, rfl, ?_⟩
            refine hK.out _ _ hHeld (fun hHeld => ?_)
            clear hK K
            refine norm_ (a' := ?_) ?_ ?_
            rotate_left
            · show Act.put _ (some 99) _ = _
              simp only [Act.put, List.setIfInBounds_toArray, List.set_cons_zero, List.set_cons_succ, i64_w, i32_w]
              rfl
            refine pure_ (i := 20) (N := some 100) (v := ?_) (a' := ?_) ref_block_r25.l20 rfl rfl (any_of HT_.out (by kernel_rfl)) (fun _ _ _ h => h) (Or.inl ⟨by rfl, ?_⟩) ?_ ?_
            rotate_left
            · intro w'
              go_simp
              with_reducible rfl
            rotate_left
            · simp only [Act.put, List.setIfInBounds_toArray, List.set_cons_zero, List.set_cons_succ, i64_w, i32_w]
              rfl
            refine take_ (i := 21) (N := some 101) (v := ?_) (a' := ?_) ref_block_r25.l21 rfl rfl (take_ofW HT_.out HW_.out (by kernel_rfl)) (fun _ _ _ h => h) (Or.inl ⟨by rfl, ?_⟩) hHeld ?_ ?_
            rotate_left
            · intro w' hs_
              obtain ⟨s0, s1⟩ := hs_
              go_simp
              with_reducible rfl
            rotate_left
            · simp only [Act.put, List.setIfInBounds_toArray, List.set_cons_zero, List.set_cons_succ, i64_w, i32_w]
              rfl
            refine last_ (i := 22) (N := some 102) ref_block_r25.l22 rfl rfl (one_of HT_.out (by kernel_rfl)) (by decide) (fun K hK => ?_)
            clear hHeld
            refine goes_ Tryd.func29 (by kernel_rfl) rfl #[.pointer (some ⟨g12, 0, none⟩), .int .i64 k, .int .i64 (wrap64 (k + 4)), .int .i64 (wrap64 (k + 8)), .int .i64 (wrap64 (k + 12)), .int .u64 m1, .int .u64 m2] (by rfl) rfl rfl (by (try simp only [List.map_toArray, List.map_cons, List.map_nil]); first | done | rfl) ?_
            refine (HMX.out _ ((HA'.out.drew.drewN _).drewN _)).mono ?_
            rintro e wn ⟨rfl, ha_, hg_⟩
            refine ⟨_, rfl, ?_⟩
            refine hK.out _ _ ?_
            clear hK K
            refine norm_ (a' := ?_) ?_ ?_
            rotate_left
            · show Act.put _ (some 102) _ = _
              simp only [Act.put, List.setIfInBounds_toArray, List.set_cons_zero, List.set_cons_succ, i64_w, i32_w]
              rfl
            refine done_ (done_of HT_.out (by kernel_rfl)) ?_
            clear HT_ HW_
            rw [HE.out] at ha_
            have HA2 := Aside0.mk ha_
            have HG3 := Aside0.mk (grown_step (grown_drewN (grown_drewN (grown_drew HG2.out) _) _) hg_)
            clear ha_ hg_ s0 s1
            go_wp2
            exact ⟨⟨k + 1, by first | rfl | (rw [kw]) | (simp [kw]), ⟨by omega, by omega⟩, ⟨_, (ref_mix_length _ _ _ _ _ _ _).trans HVl'.out, HA2.out, by rw [show (k + 1).toNat = k.toNat + 1 by omega]; exact runA_rest _ _ _ _ k.toNat (by omega) HR'.out⟩, HG3⟩, by simp [intOf]; omega⟩
          · have d1 : decide (k < 4) = false := decide_eq_false hk
            have hk9 : k = 4 := by omega
            subst hk9
            have hve : V' = VA := hR'
            subst hve
            have HA3 := Aside0.mk hV'
            obtain ⟨wC, hwC⟩ : ∃ wC, wC = wr := ⟨_, rfl⟩
            subst hwC
            have HG3 := HG2
            clear hV' hVl' hR' HV2' HG2 hk hk0 hk1
            obtain ⟨VB, hVB⟩ : ∃ VB, VB = runB M P (List.range 4) V' := ⟨_, rfl⟩
            have HVB := Aside0.mk hVB
            clear hVB
            go_wp2
            go_loopw [18] (fun i wr => ∃ k : Int, i = .int .i64 k ∧ (0 ≤ k ∧ k ≤ 4) ∧ Aside0 (∃ Vn, Vn.length = 16 ∧ Arr wr g12 Vn ∧ runB M P (List.range' k.toNat (4 - k.toNat)) Vn = VB) ∧ Aside0 (w12.grownBy wr (some g12)))
              (fun i _ => 4 - (intOf i).toNat)
            case atStart => exact ⟨0, rfl, ⟨by omega, by omega⟩, ⟨V', HVAl.out, HA3.out, by rw [HVB.out, List.range_eq_range']; rfl⟩, HG3⟩
            case round =>
            obtain ⟨k, rfl, ⟨hk0, hk1⟩, HV2', HG2⟩ := hrel
            obtain ⟨Vn, hVl', hV', hR'⟩ := HV2'.out
            have HA' := Aside0.mk hV'
            have HVn := Aside0.mk hVl'
            have HR' := Aside0.mk hR'
            have HM2 := Aside0.mk (A9d.out.grown (by rw [HMl.out]; decide) HG2.out (by have := N2.out; simpa using this.symm))
            have w_0 : wrap64 0 = 0 := by unfold wrap64; omega
            have w_1 : wrap64 1 = 1 := by unfold wrap64; omega
            have w_2 : wrap64 2 = 2 := by unfold wrap64; omega
            have w_3 : wrap64 3 = 3 := by unfold wrap64; omega
            have w_4 : wrap64 4 = 4 := by unfold wrap64; omega
            have w_5 : wrap64 5 = 5 := by unfold wrap64; omega
            have w_6 : wrap64 6 = 6 := by unfold wrap64; omega
            have w_7 : wrap64 7 = 7 := by unfold wrap64; omega
            have w_8 : wrap64 8 = 8 := by unfold wrap64; omega
            have w_9 : wrap64 9 = 9 := by unfold wrap64; omega
            have w_10 : wrap64 10 = 10 := by unfold wrap64; omega
            have w_11 : wrap64 11 = 11 := by unfold wrap64; omega
            have w_12 : wrap64 12 = 12 := by unfold wrap64; omega
            have w_13 : wrap64 13 = 13 := by unfold wrap64; omega
            have w_14 : wrap64 14 = 14 := by unfold wrap64; omega
            have w_15 : wrap64 15 = 15 := by unfold wrap64; omega
            have w_16 : wrap64 16 = 16 := by unfold wrap64; omega
            have hk4 : k = 0 ∨ k = 1 ∨ k = 2 ∨ k = 3 ∨ k = 4 := by omega
            clear hk0 hk1 hV' hVl' hR' HV2'
            rcases hk4 with rfl | rfl | rfl | rfl | rfl
            rotate_right
            · have hve : Vn = VB := HR'.out
              subst hve
              have hrr : roundR M (permOf (x.toNat % 10)) V = Vn := by
                rw [← HJ.out, ← HP.out, HVB.out, HVA.out]; rfl
              have hrest := roundsR_rest M V VF x.toNat (by omega) HR.out
              rw [hrr] at hrest
              have HRS := Aside0.mk hrest
              clear hrr hrest
              go_wp2
              exact ⟨⟨x + 1, by first | rfl | (rw [xw]) | (simp [xw]), ⟨by omega, by omega⟩, ⟨Vn, HVn.out, HA'.out, by rw [show (x + 1).toNat = x.toNat + 1 by omega]; exact HRS.out⟩, HG2⟩, by simp [intOf]; omega⟩
            · obtain ⟨b1, p1, hx1, hd1, hp0, hp1, hpn⟩ := ref_word j hj10 8 (by decide) (by decide)
              obtain ⟨b2, p2, hx2, hd2, hq0, hq1, hqn⟩ := ref_word j hj10 9 (by decide) (by decide)
              rw [← HS.out] at hx1 hx2
              obtain ⟨m1, hm1⟩ : ∃ v, v = M.getD p1.toNat 0 := ⟨_, rfl⟩
              obtain ⟨m2, hm2⟩ : ∃ v, v = M.getD p2.toNat 0 := ⟨_, rfl⟩
              have s0 := HM2.out.cell p1.toNat (by rw [HMl.out]; omega)
              have s1 := HM2.out.cell p2.toNat (by rw [HMl.out]; omega)
              rw [← hm1] at s0
              rw [← hm2] at s1
              have HD1 := Aside0.mk hd1
              have HD2 := Aside0.mk hd2
              have HMX := Aside0.mk (fun w hA => ref_mix_i g12 Vn 0 (wrap64 5) (wrap64 10) (wrap64 15) m1 m2 w (by decide) (by rw [w_5]; decide) (by rw [w_10]; decide) (by rw [w_15]; decide) HVn.out hA)
              have HE : Aside0 (ref_mix.f Vn (0 : Int).toNat (wrap64 5).toNat (wrap64 10).toNat (wrap64 15).toNat m1 m2 = halfB M P Vn 0) := ⟨by rw [w_5, w_10, w_15, hm1, hm2, hpn, hqn, ← HP.out]; rfl⟩
              clear hd1 hd2 hm1 hm2 hpn hqn
              go_upto_region 29 with (fail)
              refine start_ (n := 30) (S := fun w' => w'.cell? ⟨g9, p1.toNat, none⟩ = some (.int .u64 m1) ∧ w'.cell? ⟨g9, p2.toNat, none⟩ = some (.int .u64 m2)) (ds := [29]) #[false, false, false, false, false, false, false, false, false, false, false, false, false, false, false, false, false, false, false, false, false, false, false, false, false, false, false, false, false, false] (by kernel_rfl) rfl rfl ⟨s0, s1⟩ (fun hHeld => ?_)
              refine with_tabW ref_block_r29.tab ref_block_r29.bits (fun HT_ HW_ => ?_)
              refine pure_ (i := 0) (N := some 107) (v := ?_) (a' := ?_) ref_block_r29.l0 rfl rfl (any_of HT_.out (by kernel_rfl)) (fun _ _ _ h => h) (Or.inl ⟨by rfl, ?_⟩) ?_ ?_
              rotate_left
              · intro w'
                go_simp
                with_reducible rfl
              rotate_left
              · simp only [Act.put, List.setIfInBounds_toArray, List.set_cons_zero, List.set_cons_succ, i64_w, i32_w]
                rfl
              refine pure_ (i := 1) (N := some 108) (v := ?_) (a' := ?_) ref_block_r29.l1 rfl rfl (any_of HT_.out (by kernel_rfl)) (fun _ _ _ h => h) (Or.inl ⟨by rfl, ?_⟩) ?_ ?_
              rotate_left
              · intro w'
                go_simp
                with_reducible rfl
              rotate_left
              · simp only [Act.put, List.setIfInBounds_toArray, List.set_cons_zero, List.set_cons_succ, i64_w, i32_w]
                rfl
              refine pure_ (i := 2) (N := some 109) (v := ?_) (a' := ?_) ref_block_r29.l2 rfl rfl (any_of HT_.out (by kernel_rfl)) (fun _ _ _ h => h) (Or.inl ⟨by rfl, ?_⟩) ?_ ?_
              rotate_left
              · intro w'
                go_simp
                with_reducible rfl
              rotate_left
              · simp only [Act.put, List.setIfInBounds_toArray, List.set_cons_zero, List.set_cons_succ, i64_w, i32_w]
                rfl
              refine pure_ (i := 3) (N := some 110) (v := ?_) (a' := ?_) ref_block_r29.l3 rfl rfl (any_of HT_.out (by kernel_rfl)) (fun _ _ _ h => h) (Or.inl ⟨by rfl, ?_⟩) ?_ ?_
              rotate_left
              · intro w'
                go_simp
                with_reducible rfl
              rotate_left
              · simp only [Act.put, List.setIfInBounds_toArray, List.set_cons_zero, List.set_cons_succ, i64_w, i32_w]
                rfl
              refine pure_ (i := 4) (N := some 111) (v := ?_) (a' := ?_) ref_block_r29.l4 rfl rfl (any_of HT_.out (by kernel_rfl)) (fun _ _ _ h => h) (Or.inl ⟨by rfl, ?_⟩) ?_ ?_
              rotate_left
              · intro w'
                go_simp
                with_reducible rfl
              rotate_left
              · simp only [Act.put, List.setIfInBounds_toArray, List.set_cons_zero, List.set_cons_succ, i64_w, i32_w]
                rfl
              refine pure_ (i := 5) (N := some 112) (v := ?_) (a' := ?_) ref_block_r29.l5 rfl rfl (any_of HT_.out (by kernel_rfl)) (fun _ _ _ h => h) (Or.inl ⟨by rfl, ?_⟩) ?_ ?_
              rotate_left
              · intro w'
                go_simp
                with_reducible rfl
              rotate_left
              · simp only [Act.put, List.setIfInBounds_toArray, List.set_cons_zero, List.set_cons_succ, i64_w, i32_w]
                rfl
              refine pure_ (i := 6) (N := some 113) (v := ?_) (a' := ?_) ref_block_r29.l6 rfl rfl (any_of HT_.out (by kernel_rfl)) (fun _ _ _ h => h) (Or.inl ⟨by rfl, ?_⟩) ?_ ?_
              rotate_left
              · intro w'
                go_simp
                with_reducible rfl
              rotate_left
              · simp only [Act.put, List.setIfInBounds_toArray, List.set_cons_zero, List.set_cons_succ, i64_w, i32_w]
                rfl
              refine pure_ (i := 7) (N := some 114) (v := ?_) (a' := ?_) ref_block_r29.l7 rfl rfl (any_of HT_.out (by kernel_rfl)) (fun _ _ _ h => h) (Or.inl ⟨by rfl, ?_⟩) ?_ ?_
              rotate_left
              · intro w'
                go_simp
                with_reducible rfl
              rotate_left
              · simp only [Act.put, List.setIfInBounds_toArray, List.set_cons_zero, List.set_cons_succ, i64_w, i32_w]
                rfl
              refine pure_ (i := 8) (N := some 115) (v := ?_) (a' := ?_) ref_block_r29.l8 rfl rfl (any_of HT_.out (by kernel_rfl)) (fun _ _ _ h => h) (Or.inl ⟨by rfl, ?_⟩) ?_ ?_
              rotate_left
              · intro w'
                go_simp
                with_reducible rfl
              rotate_left
              · simp only [Act.put, List.setIfInBounds_toArray, List.set_cons_zero, List.set_cons_succ, i64_w, i32_w]
                rfl
              refine pure_ (i := 9) (N := some 116) (v := ?_) (a' := ?_) ref_block_r29.l9 rfl rfl (any_of HT_.out (by kernel_rfl)) (fun _ _ _ h => h) (Or.inl ⟨by rfl, ?_⟩) ?_ ?_
              rotate_left
              · intro w'
                go_simp
                with_reducible rfl
              rotate_left
              · simp only [Act.put, List.setIfInBounds_toArray, List.set_cons_zero, List.set_cons_succ, i64_w, i32_w]
                rfl
              refine pure_ (i := 10) (N := some 117) (v := ?_) (a' := ?_) ref_block_r29.l10 rfl rfl (any_of HT_.out (by kernel_rfl)) (fun _ _ _ h => h) (Or.inl ⟨by rfl, ?_⟩) ?_ ?_
              rotate_left
              · intro w'
                go_simp
                with_reducible rfl
              rotate_left
              · simp only [Act.put, List.setIfInBounds_toArray, List.set_cons_zero, List.set_cons_succ, i64_w, i32_w]
                rfl
              refine pure_ (i := 11) (N := some 118) (v := ?_) (a' := ?_) ref_block_r29.l11 rfl rfl (any_of HT_.out (by kernel_rfl)) (fun _ _ _ h => h) (Or.inl ⟨by rfl, ?_⟩) ?_ ?_
              rotate_left
              · intro w'
                go_simp
                with_reducible rfl
              rotate_left
              · simp only [Act.put, List.setIfInBounds_toArray, List.set_cons_zero, List.set_cons_succ, i64_w, i32_w]
                rfl
              refine pure_ (i := 12) (N := some 119) (v := ?_) (a' := ?_) ref_block_r29.l12 rfl rfl (any_of HT_.out (by kernel_rfl)) (fun _ _ _ h => h) (Or.inl ⟨by rfl, ?_⟩) ?_ ?_
              rotate_left
              · intro w'
                go_simp
                with_reducible rfl
              rotate_left
              · simp only [Act.put, List.setIfInBounds_toArray, List.set_cons_zero, List.set_cons_succ, i64_w, i32_w]
                rfl
              refine pure_ (i := 13) (N := some 120) (v := ?_) (a' := ?_) ref_block_r29.l13 rfl rfl (any_of HT_.out (by kernel_rfl)) (fun _ _ _ h => h) (Or.inl ⟨by rfl, ?_⟩) ?_ ?_
              rotate_left
              · intro w'
                go_simp
                with_reducible rfl
              rotate_left
              · simp only [Act.put, List.setIfInBounds_toArray, List.set_cons_zero, List.set_cons_succ, i64_w, i32_w]
                rfl
              refine pure_ (i := 14) (N := some 121) (v := ?_) (a' := ?_) ref_block_r29.l14 rfl rfl (any_of HT_.out (by kernel_rfl)) (fun _ _ _ h => h) (Or.inl ⟨by rfl, ?_⟩) ?_ ?_
              rotate_left
              · intro w'
                go_simp
                with_reducible rfl
              rotate_left
              · simp only [Act.put, List.setIfInBounds_toArray, List.set_cons_zero, List.set_cons_succ, i64_w, i32_w]
                rfl
              refine pure_ (i := 15) (N := some 122) (v := ?_) (a' := ?_) ref_block_r29.l15 rfl rfl (any_of HT_.out (by kernel_rfl)) (fun _ _ _ h => h) (Or.inl ⟨by rfl, ?_⟩) ?_ ?_
              rotate_left
              · intro w'
                go_simp
                with_reducible rfl
              rotate_left
              · simp only [Act.put, List.setIfInBounds_toArray, List.set_cons_zero, List.set_cons_succ, i64_w, i32_w]
                rfl
              refine pure_ (i := 16) (N := some 123) (v := ?_) (a' := ?_) ref_block_r29.l16 rfl rfl (any_of HT_.out (by kernel_rfl)) (fun _ _ _ h => h) (Or.inl ⟨by rfl, ?_⟩) ?_ ?_
              rotate_left
              · intro w'
                go_simp
                with_reducible rfl
              rotate_left
              · simp only [Act.put, List.setIfInBounds_toArray, List.set_cons_zero, List.set_cons_succ, i64_w, i32_w]
                rfl
              refine pure_ (i := 17) (N := some 124) (v := ?_) (a' := ?_) ref_block_r29.l17 rfl rfl (any_of HT_.out (by kernel_rfl)) (fun _ _ _ h => h) (Or.inl ⟨by rfl, ?_⟩) ?_ ?_
              rotate_left
              · intro w'
                go_simp
                with_reducible rfl
              rotate_left
              · simp only [Act.put, List.setIfInBounds_toArray, List.set_cons_zero, List.set_cons_succ, i64_w, i32_w]
                rfl
              refine pure_ (i := 21) (N := some 128) (v := ?_) (a' := ?_) ref_block_r29.l18 rfl rfl (any_of HT_.out (by kernel_rfl)) (fun _ _ _ h => h) (Or.inl ⟨by rfl, ?_⟩) ?_ ?_
              rotate_left
              · intro w'
                go_simp
                with_reducible rfl
              rotate_left
              · simp only [Act.put, List.setIfInBounds_toArray, List.set_cons_zero, List.set_cons_succ, i64_w, i32_w]
                rfl
              refine pure_ (i := 22) (N := some 129) (v := ?_) (a' := ?_) ref_block_r29.l19 rfl rfl (any_of HT_.out (by kernel_rfl)) (fun _ _ _ h => h) (Or.inl ⟨by rfl, ?_⟩) ?_ ?_
              rotate_left
              · intro w'
                go_simp
                with_reducible rfl
              rotate_left
              · simp only [Act.put, List.setIfInBounds_toArray, List.set_cons_zero, List.set_cons_succ, i64_w, i32_w]
                rfl
              refine pure_ (i := 23) (N := some 130) (v := ?_) (a' := ?_) ref_block_r29.l20 rfl rfl (any_of HT_.out (by kernel_rfl)) (fun _ _ _ h => h) (Or.inl ⟨by rfl, ?_⟩) ?_ ?_
              rotate_left
              · intro w'
                go_simp
                with_reducible rfl
              rotate_left
              · simp only [Act.put, List.setIfInBounds_toArray, List.set_cons_zero, List.set_cons_succ, i64_w, i32_w]
                rfl
              refine pure_ (i := 24) (N := some 131) (v := ?_) (a' := ?_) ref_block_r29.l21 rfl rfl (any_of HT_.out (by kernel_rfl)) (fun _ _ _ h => h) (Or.inl ⟨by rfl, ?_⟩) ?_ ?_
              rotate_left
              · intro w'
                go_simp
                with_reducible rfl
              rotate_left
              · simp only [Act.put, List.setIfInBounds_toArray, List.set_cons_zero, List.set_cons_succ, i64_w, i32_w]
                rfl
              refine pure_ (i := 25) (N := some 132) (v := ?_) (a' := ?_) ref_block_r29.l22 rfl rfl (any_of HT_.out (by kernel_rfl)) (fun _ _ _ h => h) (Or.inl ⟨by rfl, ?_⟩) ?_ ?_
              rotate_left
              · intro w'
                go_simp
                with_reducible rfl
              rotate_left
              · simp only [Act.put, List.setIfInBounds_toArray, List.set_cons_zero, List.set_cons_succ, i64_w, i32_w]
                rfl
              refine one_ (i := 18) (N := some 125) ref_block_r29.l23 rfl rfl (one_of HT_.out (by kernel_rfl)) (by decide) (fun K hK => ?_)
              refine goes_ Tryd.func30 (by kernel_rfl) rfl #[.int .u8 b1] (by rfl) rfl rfl (by (try simp only [List.map_toArray, List.map_cons, List.map_nil]); first | done | rfl) ?_
              refine (althingref2_digit.calls _ _ _ HD1.out).mono ?_
              rintro e w9 ⟨rfl, ⟨m_, rfl⟩⟩
              refine ⟨_, rfl, ?_⟩
              refine hK.out _ _ hHeld (fun hHeld => ?_)
              clear hK K
              refine norm_ (a' := ?_) ?_ ?_
              rotate_left
              · show Act.put _ (some 125) _ = _
                simp only [Act.put, List.setIfInBounds_toArray, List.set_cons_zero, List.set_cons_succ, i64_w, i32_w]
                rfl
              refine pure_ (i := 19) (N := some 126) (v := ?_) (a' := ?_) ref_block_r29.l24 rfl rfl (any_of HT_.out (by kernel_rfl)) (fun _ _ _ h => h) (Or.inl ⟨by rfl, ?_⟩) ?_ ?_
              rotate_left
              · intro w'
                go_simp
                with_reducible rfl
              rotate_left
              · simp only [Act.put, List.setIfInBounds_toArray, List.set_cons_zero, List.set_cons_succ, i64_w, i32_w]
                rfl
              refine take_ (i := 20) (N := some 127) (v := ?_) (a' := ?_) ref_block_r29.l25 rfl rfl (take_ofW HT_.out HW_.out (by kernel_rfl)) (fun _ _ _ h => h) (Or.inl ⟨by rfl, ?_⟩) hHeld ?_ ?_
              rotate_left
              · intro w' hs_
                obtain ⟨s0, s1⟩ := hs_
                go_simp
                with_reducible rfl
              rotate_left
              · simp only [Act.put, List.setIfInBounds_toArray, List.set_cons_zero, List.set_cons_succ, i64_w, i32_w]
                rfl
              refine one_ (i := 26) (N := some 133) ref_block_r29.l26 rfl rfl (one_of HT_.out (by kernel_rfl)) (by decide) (fun K hK => ?_)
              refine goes_ Tryd.func30 (by kernel_rfl) rfl #[.int .u8 b2] (by rfl) rfl rfl (by (try simp only [List.map_toArray, List.map_cons, List.map_nil]); first | done | rfl) ?_
              refine (althingref2_digit.calls _ _ _ HD2.out).mono ?_
              rintro e w9 ⟨rfl, ⟨m_, rfl⟩⟩
              refine ⟨_, rfl, ?_⟩
              refine hK.out _ _ hHeld (fun hHeld => ?_)
              clear hK K
              refine norm_ (a' := ?_) ?_ ?_
              rotate_left
              · show Act.put _ (some 133) _ = _
                simp only [Act.put, List.setIfInBounds_toArray, List.set_cons_zero, List.set_cons_succ, i64_w, i32_w]
                rfl
              refine pure_ (i := 27) (N := some 134) (v := ?_) (a' := ?_) ref_block_r29.l27 rfl rfl (any_of HT_.out (by kernel_rfl)) (fun _ _ _ h => h) (Or.inl ⟨by rfl, ?_⟩) ?_ ?_
              rotate_left
              · intro w'
                go_simp
                with_reducible rfl
              rotate_left
              · simp only [Act.put, List.setIfInBounds_toArray, List.set_cons_zero, List.set_cons_succ, i64_w, i32_w]
                rfl
              refine take_ (i := 28) (N := some 135) (v := ?_) (a' := ?_) ref_block_r29.l28 rfl rfl (take_ofW HT_.out HW_.out (by kernel_rfl)) (fun _ _ _ h => h) (Or.inl ⟨by rfl, ?_⟩) hHeld ?_ ?_
              rotate_left
              · intro w' hs_
                obtain ⟨s0, s1⟩ := hs_
                go_simp
                with_reducible rfl
              rotate_left
              · simp only [Act.put, List.setIfInBounds_toArray, List.set_cons_zero, List.set_cons_succ, i64_w, i32_w]
                rfl
              refine last_ (i := 29) (N := some 136) ref_block_r29.l29 rfl rfl (one_of HT_.out (by kernel_rfl)) (by decide) (fun K hK => ?_)
              clear hHeld
              refine goes_ Tryd.func29 (by kernel_rfl) rfl #[.pointer (some ⟨g12, 0, none⟩), .int .i64 0, .int .i64 (wrap64 5), .int .i64 (wrap64 10), .int .i64 (wrap64 15), .int .u64 m1, .int .u64 m2] (by rfl) rfl rfl (by (try simp only [List.map_toArray, List.map_cons, List.map_nil]); first | done | rfl) ?_
              refine (HMX.out _ ((HA'.out.drew.drewN _).drewN _)).mono ?_
              rintro e wn ⟨rfl, ha_, hg_⟩
              refine ⟨_, rfl, ?_⟩
              refine hK.out _ _ ?_
              clear hK K
              refine norm_ (a' := ?_) ?_ ?_
              rotate_left
              · show Act.put _ (some 136) _ = _
                simp only [Act.put, List.setIfInBounds_toArray, List.set_cons_zero, List.set_cons_succ, i64_w, i32_w]
                rfl
              refine done_ (done_of HT_.out (by kernel_rfl)) ?_
              clear HT_ HW_
              rw [HE.out] at ha_
              have HA2 := Aside0.mk ha_
              have HG3 := Aside0.mk (grown_step (grown_drewN (grown_drewN (grown_drew HG2.out) _) _) hg_)
              clear ha_ hg_ s0 s1
              go_wp2
              exact ⟨⟨1, rfl, ⟨by decide, by decide⟩, ⟨_, (ref_mix_length _ _ _ _ _ _ _).trans HVn.out, HA2.out, runB_rest _ _ _ _ 0 (by decide) HR'.out⟩, HG3⟩, by simp [intOf]⟩
            · obtain ⟨b1, p1, hx1, hd1, hp0, hp1, hpn⟩ := ref_word j hj10 10 (by decide) (by decide)
              obtain ⟨b2, p2, hx2, hd2, hq0, hq1, hqn⟩ := ref_word j hj10 11 (by decide) (by decide)
              rw [← HS.out] at hx1 hx2
              obtain ⟨m1, hm1⟩ : ∃ v, v = M.getD p1.toNat 0 := ⟨_, rfl⟩
              obtain ⟨m2, hm2⟩ : ∃ v, v = M.getD p2.toNat 0 := ⟨_, rfl⟩
              have s0 := HM2.out.cell p1.toNat (by rw [HMl.out]; omega)
              have s1 := HM2.out.cell p2.toNat (by rw [HMl.out]; omega)
              rw [← hm1] at s0
              rw [← hm2] at s1
              have HD1 := Aside0.mk hd1
              have HD2 := Aside0.mk hd2
              have HMX := Aside0.mk (fun w hA => ref_mix_i g12 Vn 1 (wrap64 6) (wrap64 11) (wrap64 12) m1 m2 w (by decide) (by rw [w_6]; decide) (by rw [w_11]; decide) (by rw [w_12]; decide) HVn.out hA)
              have HE : Aside0 (ref_mix.f Vn (1 : Int).toNat (wrap64 6).toNat (wrap64 11).toNat (wrap64 12).toNat m1 m2 = halfB M P Vn 1) := ⟨by rw [w_6, w_11, w_12, hm1, hm2, hpn, hqn, ← HP.out]; rfl⟩
              clear hd1 hd2 hm1 hm2 hpn hqn
              go_upto_region 29 with (fail)
              refine start_ (n := 30) (S := fun w' => w'.cell? ⟨g9, p1.toNat, none⟩ = some (.int .u64 m1) ∧ w'.cell? ⟨g9, p2.toNat, none⟩ = some (.int .u64 m2)) (ds := [29]) #[false, false, false, false, false, false, false, false, false, false, false, false, false, false, false, false, false, false, false, false, false, false, false, false, false, false, false, false, false, false] (by kernel_rfl) rfl rfl ⟨s0, s1⟩ (fun hHeld => ?_)
              refine with_tabW ref_block_r29.tab ref_block_r29.bits (fun HT_ HW_ => ?_)
              refine pure_ (i := 0) (N := some 107) (v := ?_) (a' := ?_) ref_block_r29.l0 rfl rfl (any_of HT_.out (by kernel_rfl)) (fun _ _ _ h => h) (Or.inl ⟨by rfl, ?_⟩) ?_ ?_
              rotate_left
              · intro w'
                go_simp
                with_reducible rfl
              rotate_left
              · simp only [Act.put, List.setIfInBounds_toArray, List.set_cons_zero, List.set_cons_succ, i64_w, i32_w]
                rfl
              refine pure_ (i := 1) (N := some 108) (v := ?_) (a' := ?_) ref_block_r29.l1 rfl rfl (any_of HT_.out (by kernel_rfl)) (fun _ _ _ h => h) (Or.inl ⟨by rfl, ?_⟩) ?_ ?_
              rotate_left
              · intro w'
                go_simp
                with_reducible rfl
              rotate_left
              · simp only [Act.put, List.setIfInBounds_toArray, List.set_cons_zero, List.set_cons_succ, i64_w, i32_w]
                rfl
              refine pure_ (i := 2) (N := some 109) (v := ?_) (a' := ?_) ref_block_r29.l2 rfl rfl (any_of HT_.out (by kernel_rfl)) (fun _ _ _ h => h) (Or.inl ⟨by rfl, ?_⟩) ?_ ?_
              rotate_left
              · intro w'
                go_simp
                with_reducible rfl
              rotate_left
              · simp only [Act.put, List.setIfInBounds_toArray, List.set_cons_zero, List.set_cons_succ, i64_w, i32_w]
                rfl
              refine pure_ (i := 3) (N := some 110) (v := ?_) (a' := ?_) ref_block_r29.l3 rfl rfl (any_of HT_.out (by kernel_rfl)) (fun _ _ _ h => h) (Or.inl ⟨by rfl, ?_⟩) ?_ ?_
              rotate_left
              · intro w'
                go_simp
                with_reducible rfl
              rotate_left
              · simp only [Act.put, List.setIfInBounds_toArray, List.set_cons_zero, List.set_cons_succ, i64_w, i32_w]
                rfl
              refine pure_ (i := 4) (N := some 111) (v := ?_) (a' := ?_) ref_block_r29.l4 rfl rfl (any_of HT_.out (by kernel_rfl)) (fun _ _ _ h => h) (Or.inl ⟨by rfl, ?_⟩) ?_ ?_
              rotate_left
              · intro w'
                go_simp
                with_reducible rfl
              rotate_left
              · simp only [Act.put, List.setIfInBounds_toArray, List.set_cons_zero, List.set_cons_succ, i64_w, i32_w]
                rfl
              refine pure_ (i := 5) (N := some 112) (v := ?_) (a' := ?_) ref_block_r29.l5 rfl rfl (any_of HT_.out (by kernel_rfl)) (fun _ _ _ h => h) (Or.inl ⟨by rfl, ?_⟩) ?_ ?_
              rotate_left
              · intro w'
                go_simp
                with_reducible rfl
              rotate_left
              · simp only [Act.put, List.setIfInBounds_toArray, List.set_cons_zero, List.set_cons_succ, i64_w, i32_w]
                rfl
              refine pure_ (i := 6) (N := some 113) (v := ?_) (a' := ?_) ref_block_r29.l6 rfl rfl (any_of HT_.out (by kernel_rfl)) (fun _ _ _ h => h) (Or.inl ⟨by rfl, ?_⟩) ?_ ?_
              rotate_left
              · intro w'
                go_simp
                with_reducible rfl
              rotate_left
              · simp only [Act.put, List.setIfInBounds_toArray, List.set_cons_zero, List.set_cons_succ, i64_w, i32_w]
                rfl
              refine pure_ (i := 7) (N := some 114) (v := ?_) (a' := ?_) ref_block_r29.l7 rfl rfl (any_of HT_.out (by kernel_rfl)) (fun _ _ _ h => h) (Or.inl ⟨by rfl, ?_⟩) ?_ ?_
              rotate_left
              · intro w'
                go_simp
                with_reducible rfl
              rotate_left
              · simp only [Act.put, List.setIfInBounds_toArray, List.set_cons_zero, List.set_cons_succ, i64_w, i32_w]
                rfl
              refine pure_ (i := 8) (N := some 115) (v := ?_) (a' := ?_) ref_block_r29.l8 rfl rfl (any_of HT_.out (by kernel_rfl)) (fun _ _ _ h => h) (Or.inl ⟨by rfl, ?_⟩) ?_ ?_
              rotate_left
              · intro w'
                go_simp
                with_reducible rfl
              rotate_left
              · simp only [Act.put, List.setIfInBounds_toArray, List.set_cons_zero, List.set_cons_succ, i64_w, i32_w]
                rfl
              refine pure_ (i := 9) (N := some 116) (v := ?_) (a' := ?_) ref_block_r29.l9 rfl rfl (any_of HT_.out (by kernel_rfl)) (fun _ _ _ h => h) (Or.inl ⟨by rfl, ?_⟩) ?_ ?_
              rotate_left
              · intro w'
                go_simp
                with_reducible rfl
              rotate_left
              · simp only [Act.put, List.setIfInBounds_toArray, List.set_cons_zero, List.set_cons_succ, i64_w, i32_w]
                rfl
              refine pure_ (i := 10) (N := some 117) (v := ?_) (a' := ?_) ref_block_r29.l10 rfl rfl (any_of HT_.out (by kernel_rfl)) (fun _ _ _ h => h) (Or.inl ⟨by rfl, ?_⟩) ?_ ?_
              rotate_left
              · intro w'
                go_simp
                with_reducible rfl
              rotate_left
              · simp only [Act.put, List.setIfInBounds_toArray, List.set_cons_zero, List.set_cons_succ, i64_w, i32_w]
                rfl
              refine pure_ (i := 11) (N := some 118) (v := ?_) (a' := ?_) ref_block_r29.l11 rfl rfl (any_of HT_.out (by kernel_rfl)) (fun _ _ _ h => h) (Or.inl ⟨by rfl, ?_⟩) ?_ ?_
              rotate_left
              · intro w'
                go_simp
                with_reducible rfl
              rotate_left
              · simp only [Act.put, List.setIfInBounds_toArray, List.set_cons_zero, List.set_cons_succ, i64_w, i32_w]
                rfl
              refine pure_ (i := 12) (N := some 119) (v := ?_) (a' := ?_) ref_block_r29.l12 rfl rfl (any_of HT_.out (by kernel_rfl)) (fun _ _ _ h => h) (Or.inl ⟨by rfl, ?_⟩) ?_ ?_
              rotate_left
              · intro w'
                go_simp
                with_reducible rfl
              rotate_left
              · simp only [Act.put, List.setIfInBounds_toArray, List.set_cons_zero, List.set_cons_succ, i64_w, i32_w]
                rfl
              refine pure_ (i := 13) (N := some 120) (v := ?_) (a' := ?_) ref_block_r29.l13 rfl rfl (any_of HT_.out (by kernel_rfl)) (fun _ _ _ h => h) (Or.inl ⟨by rfl, ?_⟩) ?_ ?_
              rotate_left
              · intro w'
                go_simp
                with_reducible rfl
              rotate_left
              · simp only [Act.put, List.setIfInBounds_toArray, List.set_cons_zero, List.set_cons_succ, i64_w, i32_w]
                rfl
              refine pure_ (i := 14) (N := some 121) (v := ?_) (a' := ?_) ref_block_r29.l14 rfl rfl (any_of HT_.out (by kernel_rfl)) (fun _ _ _ h => h) (Or.inl ⟨by rfl, ?_⟩) ?_ ?_
              rotate_left
              · intro w'
                go_simp
                with_reducible rfl
              rotate_left
              · simp only [Act.put, List.setIfInBounds_toArray, List.set_cons_zero, List.set_cons_succ, i64_w, i32_w]
                rfl
              refine pure_ (i := 15) (N := some 122) (v := ?_) (a' := ?_) ref_block_r29.l15 rfl rfl (any_of HT_.out (by kernel_rfl)) (fun _ _ _ h => h) (Or.inl ⟨by rfl, ?_⟩) ?_ ?_
              rotate_left
              · intro w'
                go_simp
                with_reducible rfl
              rotate_left
              · simp only [Act.put, List.setIfInBounds_toArray, List.set_cons_zero, List.set_cons_succ, i64_w, i32_w]
                rfl
              refine pure_ (i := 16) (N := some 123) (v := ?_) (a' := ?_) ref_block_r29.l16 rfl rfl (any_of HT_.out (by kernel_rfl)) (fun _ _ _ h => h) (Or.inl ⟨by rfl, ?_⟩) ?_ ?_
              rotate_left
              · intro w'
                go_simp
                with_reducible rfl
              rotate_left
              · simp only [Act.put, List.setIfInBounds_toArray, List.set_cons_zero, List.set_cons_succ, i64_w, i32_w]
                rfl
              refine pure_ (i := 17) (N := some 124) (v := ?_) (a' := ?_) ref_block_r29.l17 rfl rfl (any_of HT_.out (by kernel_rfl)) (fun _ _ _ h => h) (Or.inl ⟨by rfl, ?_⟩) ?_ ?_
              rotate_left
              · intro w'
                go_simp
                with_reducible rfl
              rotate_left
              · simp only [Act.put, List.setIfInBounds_toArray, List.set_cons_zero, List.set_cons_succ, i64_w, i32_w]
                rfl
              refine pure_ (i := 21) (N := some 128) (v := ?_) (a' := ?_) ref_block_r29.l18 rfl rfl (any_of HT_.out (by kernel_rfl)) (fun _ _ _ h => h) (Or.inl ⟨by rfl, ?_⟩) ?_ ?_
              rotate_left
              · intro w'
                go_simp
                with_reducible rfl
              rotate_left
              · simp only [Act.put, List.setIfInBounds_toArray, List.set_cons_zero, List.set_cons_succ, i64_w, i32_w]
                rfl
              refine pure_ (i := 22) (N := some 129) (v := ?_) (a' := ?_) ref_block_r29.l19 rfl rfl (any_of HT_.out (by kernel_rfl)) (fun _ _ _ h => h) (Or.inl ⟨by rfl, ?_⟩) ?_ ?_
              rotate_left
              · intro w'
                go_simp
                with_reducible rfl
              rotate_left
              · simp only [Act.put, List.setIfInBounds_toArray, List.set_cons_zero, List.set_cons_succ, i64_w, i32_w]
                rfl
              refine pure_ (i := 23) (N := some 130) (v := ?_) (a' := ?_) ref_block_r29.l20 rfl rfl (any_of HT_.out (by kernel_rfl)) (fun _ _ _ h => h) (Or.inl ⟨by rfl, ?_⟩) ?_ ?_
              rotate_left
              · intro w'
                go_simp
                with_reducible rfl
              rotate_left
              · simp only [Act.put, List.setIfInBounds_toArray, List.set_cons_zero, List.set_cons_succ, i64_w, i32_w]
                rfl
              refine pure_ (i := 24) (N := some 131) (v := ?_) (a' := ?_) ref_block_r29.l21 rfl rfl (any_of HT_.out (by kernel_rfl)) (fun _ _ _ h => h) (Or.inl ⟨by rfl, ?_⟩) ?_ ?_
              rotate_left
              · intro w'
                go_simp
                with_reducible rfl
              rotate_left
              · simp only [Act.put, List.setIfInBounds_toArray, List.set_cons_zero, List.set_cons_succ, i64_w, i32_w]
                rfl
              refine pure_ (i := 25) (N := some 132) (v := ?_) (a' := ?_) ref_block_r29.l22 rfl rfl (any_of HT_.out (by kernel_rfl)) (fun _ _ _ h => h) (Or.inl ⟨by rfl, ?_⟩) ?_ ?_
              rotate_left
              · intro w'
                go_simp
                with_reducible rfl
              rotate_left
              · simp only [Act.put, List.setIfInBounds_toArray, List.set_cons_zero, List.set_cons_succ, i64_w, i32_w]
                rfl
              refine one_ (i := 18) (N := some 125) ref_block_r29.l23 rfl rfl (one_of HT_.out (by kernel_rfl)) (by decide) (fun K hK => ?_)
              refine goes_ Tryd.func30 (by kernel_rfl) rfl #[.int .u8 b1] (by rfl) rfl rfl (by (try simp only [List.map_toArray, List.map_cons, List.map_nil]); first | done | rfl) ?_
              refine (althingref2_digit.calls _ _ _ HD1.out).mono ?_
              rintro e w9 ⟨rfl, ⟨m_, rfl⟩⟩
              refine ⟨_, rfl, ?_⟩
              refine hK.out _ _ hHeld (fun hHeld => ?_)
              clear hK K
              refine norm_ (a' := ?_) ?_ ?_
              rotate_left
              · show Act.put _ (some 125) _ = _
                simp only [Act.put, List.setIfInBounds_toArray, List.set_cons_zero, List.set_cons_succ, i64_w, i32_w]
                rfl
              refine pure_ (i := 19) (N := some 126) (v := ?_) (a' := ?_) ref_block_r29.l24 rfl rfl (any_of HT_.out (by kernel_rfl)) (fun _ _ _ h => h) (Or.inl ⟨by rfl, ?_⟩) ?_ ?_
              rotate_left
              · intro w'
                go_simp
                with_reducible rfl
              rotate_left
              · simp only [Act.put, List.setIfInBounds_toArray, List.set_cons_zero, List.set_cons_succ, i64_w, i32_w]
                rfl
              refine take_ (i := 20) (N := some 127) (v := ?_) (a' := ?_) ref_block_r29.l25 rfl rfl (take_ofW HT_.out HW_.out (by kernel_rfl)) (fun _ _ _ h => h) (Or.inl ⟨by rfl, ?_⟩) hHeld ?_ ?_
              rotate_left
              · intro w' hs_
                obtain ⟨s0, s1⟩ := hs_
                go_simp
                with_reducible rfl
              rotate_left
              · simp only [Act.put, List.setIfInBounds_toArray, List.set_cons_zero, List.set_cons_succ, i64_w, i32_w]
                rfl
              refine one_ (i := 26) (N := some 133) ref_block_r29.l26 rfl rfl (one_of HT_.out (by kernel_rfl)) (by decide) (fun K hK => ?_)
              refine goes_ Tryd.func30 (by kernel_rfl) rfl #[.int .u8 b2] (by rfl) rfl rfl (by (try simp only [List.map_toArray, List.map_cons, List.map_nil]); first | done | rfl) ?_
              refine (althingref2_digit.calls _ _ _ HD2.out).mono ?_
              rintro e w9 ⟨rfl, ⟨m_, rfl⟩⟩
              refine ⟨_, rfl, ?_⟩
              refine hK.out _ _ hHeld (fun hHeld => ?_)
              clear hK K
              refine norm_ (a' := ?_) ?_ ?_
              rotate_left
              · show Act.put _ (some 133) _ = _
                simp only [Act.put, List.setIfInBounds_toArray, List.set_cons_zero, List.set_cons_succ, i64_w, i32_w]
                rfl
              refine pure_ (i := 27) (N := some 134) (v := ?_) (a' := ?_) ref_block_r29.l27 rfl rfl (any_of HT_.out (by kernel_rfl)) (fun _ _ _ h => h) (Or.inl ⟨by rfl, ?_⟩) ?_ ?_
              rotate_left
              · intro w'
                go_simp
                with_reducible rfl
              rotate_left
              · simp only [Act.put, List.setIfInBounds_toArray, List.set_cons_zero, List.set_cons_succ, i64_w, i32_w]
                rfl
              refine take_ (i := 28) (N := some 135) (v := ?_) (a' := ?_) ref_block_r29.l28 rfl rfl (take_ofW HT_.out HW_.out (by kernel_rfl)) (fun _ _ _ h => h) (Or.inl ⟨by rfl, ?_⟩) hHeld ?_ ?_
              rotate_left
              · intro w' hs_
                obtain ⟨s0, s1⟩ := hs_
                go_simp
                with_reducible rfl
              rotate_left
              · simp only [Act.put, List.setIfInBounds_toArray, List.set_cons_zero, List.set_cons_succ, i64_w, i32_w]
                rfl
              refine last_ (i := 29) (N := some 136) ref_block_r29.l29 rfl rfl (one_of HT_.out (by kernel_rfl)) (by decide) (fun K hK => ?_)
              clear hHeld
              refine goes_ Tryd.func29 (by kernel_rfl) rfl #[.pointer (some ⟨g12, 0, none⟩), .int .i64 1, .int .i64 (wrap64 6), .int .i64 (wrap64 11), .int .i64 (wrap64 12), .int .u64 m1, .int .u64 m2] (by rfl) rfl rfl (by (try simp only [List.map_toArray, List.map_cons, List.map_nil]); first | done | rfl) ?_
              refine (HMX.out _ ((HA'.out.drew.drewN _).drewN _)).mono ?_
              rintro e wn ⟨rfl, ha_, hg_⟩
              refine ⟨_, rfl, ?_⟩
              refine hK.out _ _ ?_
              clear hK K
              refine norm_ (a' := ?_) ?_ ?_
              rotate_left
              · show Act.put _ (some 136) _ = _
                simp only [Act.put, List.setIfInBounds_toArray, List.set_cons_zero, List.set_cons_succ, i64_w, i32_w]
                rfl
              refine done_ (done_of HT_.out (by kernel_rfl)) ?_
              clear HT_ HW_
              rw [HE.out] at ha_
              have HA2 := Aside0.mk ha_
              have HG3 := Aside0.mk (grown_step (grown_drewN (grown_drewN (grown_drew HG2.out) _) _) hg_)
              clear ha_ hg_ s0 s1
              go_wp2
              exact ⟨⟨2, rfl, ⟨by decide, by decide⟩, ⟨_, (ref_mix_length _ _ _ _ _ _ _).trans HVn.out, HA2.out, runB_rest _ _ _ _ 1 (by decide) HR'.out⟩, HG3⟩, by simp [intOf]⟩
            · obtain ⟨b1, p1, hx1, hd1, hp0, hp1, hpn⟩ := ref_word j hj10 12 (by decide) (by decide)
              obtain ⟨b2, p2, hx2, hd2, hq0, hq1, hqn⟩ := ref_word j hj10 13 (by decide) (by decide)
              rw [← HS.out] at hx1 hx2
              obtain ⟨m1, hm1⟩ : ∃ v, v = M.getD p1.toNat 0 := ⟨_, rfl⟩
              obtain ⟨m2, hm2⟩ : ∃ v, v = M.getD p2.toNat 0 := ⟨_, rfl⟩
              have s0 := HM2.out.cell p1.toNat (by rw [HMl.out]; omega)
              have s1 := HM2.out.cell p2.toNat (by rw [HMl.out]; omega)
              rw [← hm1] at s0
              rw [← hm2] at s1
              have HD1 := Aside0.mk hd1
              have HD2 := Aside0.mk hd2
              have HMX := Aside0.mk (fun w hA => ref_mix_i g12 Vn 2 (wrap64 7) (wrap64 8) (wrap64 13) m1 m2 w (by decide) (by rw [w_7]; decide) (by rw [w_8]; decide) (by rw [w_13]; decide) HVn.out hA)
              have HE : Aside0 (ref_mix.f Vn (2 : Int).toNat (wrap64 7).toNat (wrap64 8).toNat (wrap64 13).toNat m1 m2 = halfB M P Vn 2) := ⟨by rw [w_7, w_8, w_13, hm1, hm2, hpn, hqn, ← HP.out]; rfl⟩
              clear hd1 hd2 hm1 hm2 hpn hqn
              go_upto_region 29 with (fail)
              refine start_ (n := 30) (S := fun w' => w'.cell? ⟨g9, p1.toNat, none⟩ = some (.int .u64 m1) ∧ w'.cell? ⟨g9, p2.toNat, none⟩ = some (.int .u64 m2)) (ds := [29]) #[false, false, false, false, false, false, false, false, false, false, false, false, false, false, false, false, false, false, false, false, false, false, false, false, false, false, false, false, false, false] (by kernel_rfl) rfl rfl ⟨s0, s1⟩ (fun hHeld => ?_)
              refine with_tabW ref_block_r29.tab ref_block_r29.bits (fun HT_ HW_ => ?_)
              refine pure_ (i := 0) (N := some 107) (v := ?_) (a' := ?_) ref_block_r29.l0 rfl rfl (any_of HT_.out (by kernel_rfl)) (fun _ _ _ h => h) (Or.inl ⟨by rfl, ?_⟩) ?_ ?_
              rotate_left
              · intro w'
                go_simp
                with_reducible rfl
              rotate_left
              · simp only [Act.put, List.setIfInBounds_toArray, List.set_cons_zero, List.set_cons_succ, i64_w, i32_w]
                rfl
              refine pure_ (i := 1) (N := some 108) (v := ?_) (a' := ?_) ref_block_r29.l1 rfl rfl (any_of HT_.out (by kernel_rfl)) (fun _ _ _ h => h) (Or.inl ⟨by rfl, ?_⟩) ?_ ?_
              rotate_left
              · intro w'
                go_simp
                with_reducible rfl
              rotate_left
              · simp only [Act.put, List.setIfInBounds_toArray, List.set_cons_zero, List.set_cons_succ, i64_w, i32_w]
                rfl
              refine pure_ (i := 2) (N := some 109) (v := ?_) (a' := ?_) ref_block_r29.l2 rfl rfl (any_of HT_.out (by kernel_rfl)) (fun _ _ _ h => h) (Or.inl ⟨by rfl, ?_⟩) ?_ ?_
              rotate_left
              · intro w'
                go_simp
                with_reducible rfl
              rotate_left
              · simp only [Act.put, List.setIfInBounds_toArray, List.set_cons_zero, List.set_cons_succ, i64_w, i32_w]
                rfl
              refine pure_ (i := 3) (N := some 110) (v := ?_) (a' := ?_) ref_block_r29.l3 rfl rfl (any_of HT_.out (by kernel_rfl)) (fun _ _ _ h => h) (Or.inl ⟨by rfl, ?_⟩) ?_ ?_
              rotate_left
              · intro w'
                go_simp
                with_reducible rfl
              rotate_left
              · simp only [Act.put, List.setIfInBounds_toArray, List.set_cons_zero, List.set_cons_succ, i64_w, i32_w]
                rfl
              refine pure_ (i := 4) (N := some 111) (v := ?_) (a' := ?_) ref_block_r29.l4 rfl rfl (any_of HT_.out (by kernel_rfl)) (fun _ _ _ h => h) (Or.inl ⟨by rfl, ?_⟩) ?_ ?_
              rotate_left
              · intro w'
                go_simp
                with_reducible rfl
              rotate_left
              · simp only [Act.put, List.setIfInBounds_toArray, List.set_cons_zero, List.set_cons_succ, i64_w, i32_w]
                rfl
              refine pure_ (i := 5) (N := some 112) (v := ?_) (a' := ?_) ref_block_r29.l5 rfl rfl (any_of HT_.out (by kernel_rfl)) (fun _ _ _ h => h) (Or.inl ⟨by rfl, ?_⟩) ?_ ?_
              rotate_left
              · intro w'
                go_simp
                with_reducible rfl
              rotate_left
              · simp only [Act.put, List.setIfInBounds_toArray, List.set_cons_zero, List.set_cons_succ, i64_w, i32_w]
                rfl
              refine pure_ (i := 6) (N := some 113) (v := ?_) (a' := ?_) ref_block_r29.l6 rfl rfl (any_of HT_.out (by kernel_rfl)) (fun _ _ _ h => h) (Or.inl ⟨by rfl, ?_⟩) ?_ ?_
              rotate_left
              · intro w'
                go_simp
                with_reducible rfl
              rotate_left
              · simp only [Act.put, List.setIfInBounds_toArray, List.set_cons_zero, List.set_cons_succ, i64_w, i32_w]
                rfl
              refine pure_ (i := 7) (N := some 114) (v := ?_) (a' := ?_) ref_block_r29.l7 rfl rfl (any_of HT_.out (by kernel_rfl)) (fun _ _ _ h => h) (Or.inl ⟨by rfl, ?_⟩) ?_ ?_
              rotate_left
              · intro w'
                go_simp
                with_reducible rfl
              rotate_left
              · simp only [Act.put, List.setIfInBounds_toArray, List.set_cons_zero, List.set_cons_succ, i64_w, i32_w]
                rfl
              refine pure_ (i := 8) (N := some 115) (v := ?_) (a' := ?_) ref_block_r29.l8 rfl rfl (any_of HT_.out (by kernel_rfl)) (fun _ _ _ h => h) (Or.inl ⟨by rfl, ?_⟩) ?_ ?_
              rotate_left
              · intro w'
                go_simp
                with_reducible rfl
              rotate_left
              · simp only [Act.put, List.setIfInBounds_toArray, List.set_cons_zero, List.set_cons_succ, i64_w, i32_w]
                rfl
              refine pure_ (i := 9) (N := some 116) (v := ?_) (a' := ?_) ref_block_r29.l9 rfl rfl (any_of HT_.out (by kernel_rfl)) (fun _ _ _ h => h) (Or.inl ⟨by rfl, ?_⟩) ?_ ?_
              rotate_left
              · intro w'
                go_simp
                with_reducible rfl
              rotate_left
              · simp only [Act.put, List.setIfInBounds_toArray, List.set_cons_zero, List.set_cons_succ, i64_w, i32_w]
                rfl
              refine pure_ (i := 10) (N := some 117) (v := ?_) (a' := ?_) ref_block_r29.l10 rfl rfl (any_of HT_.out (by kernel_rfl)) (fun _ _ _ h => h) (Or.inl ⟨by rfl, ?_⟩) ?_ ?_
              rotate_left
              · intro w'
                go_simp
                with_reducible rfl
              rotate_left
              · simp only [Act.put, List.setIfInBounds_toArray, List.set_cons_zero, List.set_cons_succ, i64_w, i32_w]
                rfl
              refine pure_ (i := 11) (N := some 118) (v := ?_) (a' := ?_) ref_block_r29.l11 rfl rfl (any_of HT_.out (by kernel_rfl)) (fun _ _ _ h => h) (Or.inl ⟨by rfl, ?_⟩) ?_ ?_
              rotate_left
              · intro w'
                go_simp
                with_reducible rfl
              rotate_left
              · simp only [Act.put, List.setIfInBounds_toArray, List.set_cons_zero, List.set_cons_succ, i64_w, i32_w]
                rfl
              refine pure_ (i := 12) (N := some 119) (v := ?_) (a' := ?_) ref_block_r29.l12 rfl rfl (any_of HT_.out (by kernel_rfl)) (fun _ _ _ h => h) (Or.inl ⟨by rfl, ?_⟩) ?_ ?_
              rotate_left
              · intro w'
                go_simp
                with_reducible rfl
              rotate_left
              · simp only [Act.put, List.setIfInBounds_toArray, List.set_cons_zero, List.set_cons_succ, i64_w, i32_w]
                rfl
              refine pure_ (i := 13) (N := some 120) (v := ?_) (a' := ?_) ref_block_r29.l13 rfl rfl (any_of HT_.out (by kernel_rfl)) (fun _ _ _ h => h) (Or.inl ⟨by rfl, ?_⟩) ?_ ?_
              rotate_left
              · intro w'
                go_simp
                with_reducible rfl
              rotate_left
              · simp only [Act.put, List.setIfInBounds_toArray, List.set_cons_zero, List.set_cons_succ, i64_w, i32_w]
                rfl
              refine pure_ (i := 14) (N := some 121) (v := ?_) (a' := ?_) ref_block_r29.l14 rfl rfl (any_of HT_.out (by kernel_rfl)) (fun _ _ _ h => h) (Or.inl ⟨by rfl, ?_⟩) ?_ ?_
              rotate_left
              · intro w'
                go_simp
                with_reducible rfl
              rotate_left
              · simp only [Act.put, List.setIfInBounds_toArray, List.set_cons_zero, List.set_cons_succ, i64_w, i32_w]
                rfl
              refine pure_ (i := 15) (N := some 122) (v := ?_) (a' := ?_) ref_block_r29.l15 rfl rfl (any_of HT_.out (by kernel_rfl)) (fun _ _ _ h => h) (Or.inl ⟨by rfl, ?_⟩) ?_ ?_
              rotate_left
              · intro w'
                go_simp
                with_reducible rfl
              rotate_left
              · simp only [Act.put, List.setIfInBounds_toArray, List.set_cons_zero, List.set_cons_succ, i64_w, i32_w]
                rfl
              refine pure_ (i := 16) (N := some 123) (v := ?_) (a' := ?_) ref_block_r29.l16 rfl rfl (any_of HT_.out (by kernel_rfl)) (fun _ _ _ h => h) (Or.inl ⟨by rfl, ?_⟩) ?_ ?_
              rotate_left
              · intro w'
                go_simp
                with_reducible rfl
              rotate_left
              · simp only [Act.put, List.setIfInBounds_toArray, List.set_cons_zero, List.set_cons_succ, i64_w, i32_w]
                rfl
              refine pure_ (i := 17) (N := some 124) (v := ?_) (a' := ?_) ref_block_r29.l17 rfl rfl (any_of HT_.out (by kernel_rfl)) (fun _ _ _ h => h) (Or.inl ⟨by rfl, ?_⟩) ?_ ?_
              rotate_left
              · intro w'
                go_simp
                with_reducible rfl
              rotate_left
              · simp only [Act.put, List.setIfInBounds_toArray, List.set_cons_zero, List.set_cons_succ, i64_w, i32_w]
                rfl
              refine pure_ (i := 21) (N := some 128) (v := ?_) (a' := ?_) ref_block_r29.l18 rfl rfl (any_of HT_.out (by kernel_rfl)) (fun _ _ _ h => h) (Or.inl ⟨by rfl, ?_⟩) ?_ ?_
              rotate_left
              · intro w'
                go_simp
                with_reducible rfl
              rotate_left
              · simp only [Act.put, List.setIfInBounds_toArray, List.set_cons_zero, List.set_cons_succ, i64_w, i32_w]
                rfl
              refine pure_ (i := 22) (N := some 129) (v := ?_) (a' := ?_) ref_block_r29.l19 rfl rfl (any_of HT_.out (by kernel_rfl)) (fun _ _ _ h => h) (Or.inl ⟨by rfl, ?_⟩) ?_ ?_
              rotate_left
              · intro w'
                go_simp
                with_reducible rfl
              rotate_left
              · simp only [Act.put, List.setIfInBounds_toArray, List.set_cons_zero, List.set_cons_succ, i64_w, i32_w]
                rfl
              refine pure_ (i := 23) (N := some 130) (v := ?_) (a' := ?_) ref_block_r29.l20 rfl rfl (any_of HT_.out (by kernel_rfl)) (fun _ _ _ h => h) (Or.inl ⟨by rfl, ?_⟩) ?_ ?_
              rotate_left
              · intro w'
                go_simp
                with_reducible rfl
              rotate_left
              · simp only [Act.put, List.setIfInBounds_toArray, List.set_cons_zero, List.set_cons_succ, i64_w, i32_w]
                rfl
              refine pure_ (i := 24) (N := some 131) (v := ?_) (a' := ?_) ref_block_r29.l21 rfl rfl (any_of HT_.out (by kernel_rfl)) (fun _ _ _ h => h) (Or.inl ⟨by rfl, ?_⟩) ?_ ?_
              rotate_left
              · intro w'
                go_simp
                with_reducible rfl
              rotate_left
              · simp only [Act.put, List.setIfInBounds_toArray, List.set_cons_zero, List.set_cons_succ, i64_w, i32_w]
                rfl
              refine pure_ (i := 25) (N := some 132) (v := ?_) (a' := ?_) ref_block_r29.l22 rfl rfl (any_of HT_.out (by kernel_rfl)) (fun _ _ _ h => h) (Or.inl ⟨by rfl, ?_⟩) ?_ ?_
              rotate_left
              · intro w'
                go_simp
                with_reducible rfl
              rotate_left
              · simp only [Act.put, List.setIfInBounds_toArray, List.set_cons_zero, List.set_cons_succ, i64_w, i32_w]
                rfl
              refine one_ (i := 18) (N := some 125) ref_block_r29.l23 rfl rfl (one_of HT_.out (by kernel_rfl)) (by decide) (fun K hK => ?_)
              refine goes_ Tryd.func30 (by kernel_rfl) rfl #[.int .u8 b1] (by rfl) rfl rfl (by (try simp only [List.map_toArray, List.map_cons, List.map_nil]); first | done | rfl) ?_
              refine (althingref2_digit.calls _ _ _ HD1.out).mono ?_
              rintro e w9 ⟨rfl, ⟨m_, rfl⟩⟩
              refine ⟨_, rfl, ?_⟩
              refine hK.out _ _ hHeld (fun hHeld => ?_)
              clear hK K
              refine norm_ (a' := ?_) ?_ ?_
              rotate_left
              · show Act.put _ (some 125) _ = _
                simp only [Act.put, List.setIfInBounds_toArray, List.set_cons_zero, List.set_cons_succ, i64_w, i32_w]
                rfl
              refine pure_ (i := 19) (N := some 126) (v := ?_) (a' := ?_) ref_block_r29.l24 rfl rfl (any_of HT_.out (by kernel_rfl)) (fun _ _ _ h => h) (Or.inl ⟨by rfl, ?_⟩) ?_ ?_
              rotate_left
              · intro w'
                go_simp
                with_reducible rfl
              rotate_left
              · simp only [Act.put, List.setIfInBounds_toArray, List.set_cons_zero, List.set_cons_succ, i64_w, i32_w]
                rfl
              refine take_ (i := 20) (N := some 127) (v := ?_) (a' := ?_) ref_block_r29.l25 rfl rfl (take_ofW HT_.out HW_.out (by kernel_rfl)) (fun _ _ _ h => h) (Or.inl ⟨by rfl, ?_⟩) hHeld ?_ ?_
              rotate_left
              · intro w' hs_
                obtain ⟨s0, s1⟩ := hs_
                go_simp
                with_reducible rfl
              rotate_left
              · simp only [Act.put, List.setIfInBounds_toArray, List.set_cons_zero, List.set_cons_succ, i64_w, i32_w]
                rfl
              refine one_ (i := 26) (N := some 133) ref_block_r29.l26 rfl rfl (one_of HT_.out (by kernel_rfl)) (by decide) (fun K hK => ?_)
              refine goes_ Tryd.func30 (by kernel_rfl) rfl #[.int .u8 b2] (by rfl) rfl rfl (by (try simp only [List.map_toArray, List.map_cons, List.map_nil]); first | done | rfl) ?_
              refine (althingref2_digit.calls _ _ _ HD2.out).mono ?_
              rintro e w9 ⟨rfl, ⟨m_, rfl⟩⟩
              refine ⟨_, rfl, ?_⟩
              refine hK.out _ _ hHeld (fun hHeld => ?_)
              clear hK K
              refine norm_ (a' := ?_) ?_ ?_
              rotate_left
              · show Act.put _ (some 133) _ = _
                simp only [Act.put, List.setIfInBounds_toArray, List.set_cons_zero, List.set_cons_succ, i64_w, i32_w]
                rfl
              refine pure_ (i := 27) (N := some 134) (v := ?_) (a' := ?_) ref_block_r29.l27 rfl rfl (any_of HT_.out (by kernel_rfl)) (fun _ _ _ h => h) (Or.inl ⟨by rfl, ?_⟩) ?_ ?_
              rotate_left
              · intro w'
                go_simp
                with_reducible rfl
              rotate_left
              · simp only [Act.put, List.setIfInBounds_toArray, List.set_cons_zero, List.set_cons_succ, i64_w, i32_w]
                rfl
              refine take_ (i := 28) (N := some 135) (v := ?_) (a' := ?_) ref_block_r29.l28 rfl rfl (take_ofW HT_.out HW_.out (by kernel_rfl)) (fun _ _ _ h => h) (Or.inl ⟨by rfl, ?_⟩) hHeld ?_ ?_
              rotate_left
              · intro w' hs_
                obtain ⟨s0, s1⟩ := hs_
                go_simp
                with_reducible rfl
              rotate_left
              · simp only [Act.put, List.setIfInBounds_toArray, List.set_cons_zero, List.set_cons_succ, i64_w, i32_w]
                rfl
              refine last_ (i := 29) (N := some 136) ref_block_r29.l29 rfl rfl (one_of HT_.out (by kernel_rfl)) (by decide) (fun K hK => ?_)
              clear hHeld
              refine goes_ Tryd.func29 (by kernel_rfl) rfl #[.pointer (some ⟨g12, 0, none⟩), .int .i64 2, .int .i64 (wrap64 7), .int .i64 (wrap64 8), .int .i64 (wrap64 13), .int .u64 m1, .int .u64 m2] (by rfl) rfl rfl (by (try simp only [List.map_toArray, List.map_cons, List.map_nil]); first | done | rfl) ?_
              refine (HMX.out _ ((HA'.out.drew.drewN _).drewN _)).mono ?_
              rintro e wn ⟨rfl, ha_, hg_⟩
              refine ⟨_, rfl, ?_⟩
              refine hK.out _ _ ?_
              clear hK K
              refine norm_ (a' := ?_) ?_ ?_
              rotate_left
              · show Act.put _ (some 136) _ = _
                simp only [Act.put, List.setIfInBounds_toArray, List.set_cons_zero, List.set_cons_succ, i64_w, i32_w]
                rfl
              refine done_ (done_of HT_.out (by kernel_rfl)) ?_
              clear HT_ HW_
              rw [HE.out] at ha_
              have HA2 := Aside0.mk ha_
              have HG3 := Aside0.mk (grown_step (grown_drewN (grown_drewN (grown_drew HG2.out) _) _) hg_)
              clear ha_ hg_ s0 s1
              go_wp2
              exact ⟨⟨3, rfl, ⟨by decide, by decide⟩, ⟨_, (ref_mix_length _ _ _ _ _ _ _).trans HVn.out, HA2.out, runB_rest _ _ _ _ 2 (by decide) HR'.out⟩, HG3⟩, by simp [intOf]⟩
            · obtain ⟨b1, p1, hx1, hd1, hp0, hp1, hpn⟩ := ref_word j hj10 14 (by decide) (by decide)
              obtain ⟨b2, p2, hx2, hd2, hq0, hq1, hqn⟩ := ref_word j hj10 15 (by decide) (by decide)
              rw [← HS.out] at hx1 hx2
              obtain ⟨m1, hm1⟩ : ∃ v, v = M.getD p1.toNat 0 := ⟨_, rfl⟩
              obtain ⟨m2, hm2⟩ : ∃ v, v = M.getD p2.toNat 0 := ⟨_, rfl⟩
              have s0 := HM2.out.cell p1.toNat (by rw [HMl.out]; omega)
              have s1 := HM2.out.cell p2.toNat (by rw [HMl.out]; omega)
              rw [← hm1] at s0
              rw [← hm2] at s1
              have HD1 := Aside0.mk hd1
              have HD2 := Aside0.mk hd2
              have HMX := Aside0.mk (fun w hA => ref_mix_i g12 Vn 3 (wrap64 4) (wrap64 9) (wrap64 14) m1 m2 w (by decide) (by rw [w_4]; decide) (by rw [w_9]; decide) (by rw [w_14]; decide) HVn.out hA)
              have HE : Aside0 (ref_mix.f Vn (3 : Int).toNat (wrap64 4).toNat (wrap64 9).toNat (wrap64 14).toNat m1 m2 = halfB M P Vn 3) := ⟨by rw [w_4, w_9, w_14, hm1, hm2, hpn, hqn, ← HP.out]; rfl⟩
              clear hd1 hd2 hm1 hm2 hpn hqn
              go_upto_region 29 with (fail)
              refine start_ (n := 30) (S := fun w' => w'.cell? ⟨g9, p1.toNat, none⟩ = some (.int .u64 m1) ∧ w'.cell? ⟨g9, p2.toNat, none⟩ = some (.int .u64 m2)) (ds := [29]) #[false, false, false, false, false, false, false, false, false, false, false, false, false, false, false, false, false, false, false, false, false, false, false, false, false, false, false, false, false, false] (by kernel_rfl) rfl rfl ⟨s0, s1⟩ (fun hHeld => ?_)
              refine with_tabW ref_block_r29.tab ref_block_r29.bits (fun HT_ HW_ => ?_)
              refine pure_ (i := 0) (N := some 107) (v := ?_) (a' := ?_) ref_block_r29.l0 rfl rfl (any_of HT_.out (by kernel_rfl)) (fun _ _ _ h => h) (Or.inl ⟨by rfl, ?_⟩) ?_ ?_
              rotate_left
              · intro w'
                go_simp
                with_reducible rfl
              rotate_left
              · simp only [Act.put, List.setIfInBounds_toArray, List.set_cons_zero, List.set_cons_succ, i64_w, i32_w]
                rfl
              refine pure_ (i := 1) (N := some 108) (v := ?_) (a' := ?_) ref_block_r29.l1 rfl rfl (any_of HT_.out (by kernel_rfl)) (fun _ _ _ h => h) (Or.inl ⟨by rfl, ?_⟩) ?_ ?_
              rotate_left
              · intro w'
                go_simp
                with_reducible rfl
              rotate_left
              · simp only [Act.put, List.setIfInBounds_toArray, List.set_cons_zero, List.set_cons_succ, i64_w, i32_w]
                rfl
              refine pure_ (i := 2) (N := some 109) (v := ?_) (a' := ?_) ref_block_r29.l2 rfl rfl (any_of HT_.out (by kernel_rfl)) (fun _ _ _ h => h) (Or.inl ⟨by rfl, ?_⟩) ?_ ?_
              rotate_left
              · intro w'
                go_simp
                with_reducible rfl
              rotate_left
              · simp only [Act.put, List.setIfInBounds_toArray, List.set_cons_zero, List.set_cons_succ, i64_w, i32_w]
                rfl
              refine pure_ (i := 3) (N := some 110) (v := ?_) (a' := ?_) ref_block_r29.l3 rfl rfl (any_of HT_.out (by kernel_rfl)) (fun _ _ _ h => h) (Or.inl ⟨by rfl, ?_⟩) ?_ ?_
              rotate_left
              · intro w'
                go_simp
                with_reducible rfl
              rotate_left
              · simp only [Act.put, List.setIfInBounds_toArray, List.set_cons_zero, List.set_cons_succ, i64_w, i32_w]
                rfl
              refine pure_ (i := 4) (N := some 111) (v := ?_) (a' := ?_) ref_block_r29.l4 rfl rfl (any_of HT_.out (by kernel_rfl)) (fun _ _ _ h => h) (Or.inl ⟨by rfl, ?_⟩) ?_ ?_
              rotate_left
              · intro w'
                go_simp
                with_reducible rfl
              rotate_left
              · simp only [Act.put, List.setIfInBounds_toArray, List.set_cons_zero, List.set_cons_succ, i64_w, i32_w]
                rfl
              refine pure_ (i := 5) (N := some 112) (v := ?_) (a' := ?_) ref_block_r29.l5 rfl rfl (any_of HT_.out (by kernel_rfl)) (fun _ _ _ h => h) (Or.inl ⟨by rfl, ?_⟩) ?_ ?_
              rotate_left
              · intro w'
                go_simp
                with_reducible rfl
              rotate_left
              · simp only [Act.put, List.setIfInBounds_toArray, List.set_cons_zero, List.set_cons_succ, i64_w, i32_w]
                rfl
              refine pure_ (i := 6) (N := some 113) (v := ?_) (a' := ?_) ref_block_r29.l6 rfl rfl (any_of HT_.out (by kernel_rfl)) (fun _ _ _ h => h) (Or.inl ⟨by rfl, ?_⟩) ?_ ?_
              rotate_left
              · intro w'
                go_simp
                with_reducible rfl
              rotate_left
              · simp only [Act.put, List.setIfInBounds_toArray, List.set_cons_zero, List.set_cons_succ, i64_w, i32_w]
                rfl
              refine pure_ (i := 7) (N := some 114) (v := ?_) (a' := ?_) ref_block_r29.l7 rfl rfl (any_of HT_.out (by kernel_rfl)) (fun _ _ _ h => h) (Or.inl ⟨by rfl, ?_⟩) ?_ ?_
              rotate_left
              · intro w'
                go_simp
                with_reducible rfl
              rotate_left
              · simp only [Act.put, List.setIfInBounds_toArray, List.set_cons_zero, List.set_cons_succ, i64_w, i32_w]
                rfl
              refine pure_ (i := 8) (N := some 115) (v := ?_) (a' := ?_) ref_block_r29.l8 rfl rfl (any_of HT_.out (by kernel_rfl)) (fun _ _ _ h => h) (Or.inl ⟨by rfl, ?_⟩) ?_ ?_
              rotate_left
              · intro w'
                go_simp
                with_reducible rfl
              rotate_left
              · simp only [Act.put, List.setIfInBounds_toArray, List.set_cons_zero, List.set_cons_succ, i64_w, i32_w]
                rfl
              refine pure_ (i := 9) (N := some 116) (v := ?_) (a' := ?_) ref_block_r29.l9 rfl rfl (any_of HT_.out (by kernel_rfl)) (fun _ _ _ h => h) (Or.inl ⟨by rfl, ?_⟩) ?_ ?_
              rotate_left
              · intro w'
                go_simp
                with_reducible rfl
              rotate_left
              · simp only [Act.put, List.setIfInBounds_toArray, List.set_cons_zero, List.set_cons_succ, i64_w, i32_w]
                rfl
              refine pure_ (i := 10) (N := some 117) (v := ?_) (a' := ?_) ref_block_r29.l10 rfl rfl (any_of HT_.out (by kernel_rfl)) (fun _ _ _ h => h) (Or.inl ⟨by rfl, ?_⟩) ?_ ?_
              rotate_left
              · intro w'
                go_simp
                with_reducible rfl
              rotate_left
              · simp only [Act.put, List.setIfInBounds_toArray, List.set_cons_zero, List.set_cons_succ, i64_w, i32_w]
                rfl
              refine pure_ (i := 11) (N := some 118) (v := ?_) (a' := ?_) ref_block_r29.l11 rfl rfl (any_of HT_.out (by kernel_rfl)) (fun _ _ _ h => h) (Or.inl ⟨by rfl, ?_⟩) ?_ ?_
              rotate_left
              · intro w'
                go_simp
                with_reducible rfl
              rotate_left
              · simp only [Act.put, List.setIfInBounds_toArray, List.set_cons_zero, List.set_cons_succ, i64_w, i32_w]
                rfl
              refine pure_ (i := 12) (N := some 119) (v := ?_) (a' := ?_) ref_block_r29.l12 rfl rfl (any_of HT_.out (by kernel_rfl)) (fun _ _ _ h => h) (Or.inl ⟨by rfl, ?_⟩) ?_ ?_
              rotate_left
              · intro w'
                go_simp
                with_reducible rfl
              rotate_left
              · simp only [Act.put, List.setIfInBounds_toArray, List.set_cons_zero, List.set_cons_succ, i64_w, i32_w]
                rfl
              refine pure_ (i := 13) (N := some 120) (v := ?_) (a' := ?_) ref_block_r29.l13 rfl rfl (any_of HT_.out (by kernel_rfl)) (fun _ _ _ h => h) (Or.inl ⟨by rfl, ?_⟩) ?_ ?_
              rotate_left
              · intro w'
                go_simp
                with_reducible rfl
              rotate_left
              · simp only [Act.put, List.setIfInBounds_toArray, List.set_cons_zero, List.set_cons_succ, i64_w, i32_w]
                rfl
              refine pure_ (i := 14) (N := some 121) (v := ?_) (a' := ?_) ref_block_r29.l14 rfl rfl (any_of HT_.out (by kernel_rfl)) (fun _ _ _ h => h) (Or.inl ⟨by rfl, ?_⟩) ?_ ?_
              rotate_left
              · intro w'
                go_simp
                with_reducible rfl
              rotate_left
              · simp only [Act.put, List.setIfInBounds_toArray, List.set_cons_zero, List.set_cons_succ, i64_w, i32_w]
                rfl
              refine pure_ (i := 15) (N := some 122) (v := ?_) (a' := ?_) ref_block_r29.l15 rfl rfl (any_of HT_.out (by kernel_rfl)) (fun _ _ _ h => h) (Or.inl ⟨by rfl, ?_⟩) ?_ ?_
              rotate_left
              · intro w'
                go_simp
                with_reducible rfl
              rotate_left
              · simp only [Act.put, List.setIfInBounds_toArray, List.set_cons_zero, List.set_cons_succ, i64_w, i32_w]
                rfl
              refine pure_ (i := 16) (N := some 123) (v := ?_) (a' := ?_) ref_block_r29.l16 rfl rfl (any_of HT_.out (by kernel_rfl)) (fun _ _ _ h => h) (Or.inl ⟨by rfl, ?_⟩) ?_ ?_
              rotate_left
              · intro w'
                go_simp
                with_reducible rfl
              rotate_left
              · simp only [Act.put, List.setIfInBounds_toArray, List.set_cons_zero, List.set_cons_succ, i64_w, i32_w]
                rfl
              refine pure_ (i := 17) (N := some 124) (v := ?_) (a' := ?_) ref_block_r29.l17 rfl rfl (any_of HT_.out (by kernel_rfl)) (fun _ _ _ h => h) (Or.inl ⟨by rfl, ?_⟩) ?_ ?_
              rotate_left
              · intro w'
                go_simp
                with_reducible rfl
              rotate_left
              · simp only [Act.put, List.setIfInBounds_toArray, List.set_cons_zero, List.set_cons_succ, i64_w, i32_w]
                rfl
              refine pure_ (i := 21) (N := some 128) (v := ?_) (a' := ?_) ref_block_r29.l18 rfl rfl (any_of HT_.out (by kernel_rfl)) (fun _ _ _ h => h) (Or.inl ⟨by rfl, ?_⟩) ?_ ?_
              rotate_left
              · intro w'
                go_simp
                with_reducible rfl
              rotate_left
              · simp only [Act.put, List.setIfInBounds_toArray, List.set_cons_zero, List.set_cons_succ, i64_w, i32_w]
                rfl
              refine pure_ (i := 22) (N := some 129) (v := ?_) (a' := ?_) ref_block_r29.l19 rfl rfl (any_of HT_.out (by kernel_rfl)) (fun _ _ _ h => h) (Or.inl ⟨by rfl, ?_⟩) ?_ ?_
              rotate_left
              · intro w'
                go_simp
                with_reducible rfl
              rotate_left
              · simp only [Act.put, List.setIfInBounds_toArray, List.set_cons_zero, List.set_cons_succ, i64_w, i32_w]
                rfl
              refine pure_ (i := 23) (N := some 130) (v := ?_) (a' := ?_) ref_block_r29.l20 rfl rfl (any_of HT_.out (by kernel_rfl)) (fun _ _ _ h => h) (Or.inl ⟨by rfl, ?_⟩) ?_ ?_
              rotate_left
              · intro w'
                go_simp
                with_reducible rfl
              rotate_left
              · simp only [Act.put, List.setIfInBounds_toArray, List.set_cons_zero, List.set_cons_succ, i64_w, i32_w]
                rfl
              refine pure_ (i := 24) (N := some 131) (v := ?_) (a' := ?_) ref_block_r29.l21 rfl rfl (any_of HT_.out (by kernel_rfl)) (fun _ _ _ h => h) (Or.inl ⟨by rfl, ?_⟩) ?_ ?_
              rotate_left
              · intro w'
                go_simp
                with_reducible rfl
              rotate_left
              · simp only [Act.put, List.setIfInBounds_toArray, List.set_cons_zero, List.set_cons_succ, i64_w, i32_w]
                rfl
              refine pure_ (i := 25) (N := some 132) (v := ?_) (a' := ?_) ref_block_r29.l22 rfl rfl (any_of HT_.out (by kernel_rfl)) (fun _ _ _ h => h) (Or.inl ⟨by rfl, ?_⟩) ?_ ?_
              rotate_left
              · intro w'
                go_simp
                with_reducible rfl
              rotate_left
              · simp only [Act.put, List.setIfInBounds_toArray, List.set_cons_zero, List.set_cons_succ, i64_w, i32_w]
                rfl
              refine one_ (i := 18) (N := some 125) ref_block_r29.l23 rfl rfl (one_of HT_.out (by kernel_rfl)) (by decide) (fun K hK => ?_)
              refine goes_ Tryd.func30 (by kernel_rfl) rfl #[.int .u8 b1] (by rfl) rfl rfl (by (try simp only [List.map_toArray, List.map_cons, List.map_nil]); first | done | rfl) ?_
              refine (althingref2_digit.calls _ _ _ HD1.out).mono ?_
              rintro e w9 ⟨rfl, ⟨m_, rfl⟩⟩
              refine ⟨_, rfl, ?_⟩
              refine hK.out _ _ hHeld (fun hHeld => ?_)
              clear hK K
              refine norm_ (a' := ?_) ?_ ?_
              rotate_left
              · show Act.put _ (some 125) _ = _
                simp only [Act.put, List.setIfInBounds_toArray, List.set_cons_zero, List.set_cons_succ, i64_w, i32_w]
                rfl
              refine pure_ (i := 19) (N := some 126) (v := ?_) (a' := ?_) ref_block_r29.l24 rfl rfl (any_of HT_.out (by kernel_rfl)) (fun _ _ _ h => h) (Or.inl ⟨by rfl, ?_⟩) ?_ ?_
              rotate_left
              · intro w'
                go_simp
                with_reducible rfl
              rotate_left
              · simp only [Act.put, List.setIfInBounds_toArray, List.set_cons_zero, List.set_cons_succ, i64_w, i32_w]
                rfl
              refine take_ (i := 20) (N := some 127) (v := ?_) (a' := ?_) ref_block_r29.l25 rfl rfl (take_ofW HT_.out HW_.out (by kernel_rfl)) (fun _ _ _ h => h) (Or.inl ⟨by rfl, ?_⟩) hHeld ?_ ?_
              rotate_left
              · intro w' hs_
                obtain ⟨s0, s1⟩ := hs_
                go_simp
                with_reducible rfl
              rotate_left
              · simp only [Act.put, List.setIfInBounds_toArray, List.set_cons_zero, List.set_cons_succ, i64_w, i32_w]
                rfl
              refine one_ (i := 26) (N := some 133) ref_block_r29.l26 rfl rfl (one_of HT_.out (by kernel_rfl)) (by decide) (fun K hK => ?_)
              refine goes_ Tryd.func30 (by kernel_rfl) rfl #[.int .u8 b2] (by rfl) rfl rfl (by (try simp only [List.map_toArray, List.map_cons, List.map_nil]); first | done | rfl) ?_
              refine (althingref2_digit.calls _ _ _ HD2.out).mono ?_
              rintro e w9 ⟨rfl, ⟨m_, rfl⟩⟩
              refine ⟨_, rfl, ?_⟩
              refine hK.out _ _ hHeld (fun hHeld => ?_)
              clear hK K
              refine norm_ (a' := ?_) ?_ ?_
              rotate_left
              · show Act.put _ (some 133) _ = _
                simp only [Act.put, List.setIfInBounds_toArray, List.set_cons_zero, List.set_cons_succ, i64_w, i32_w]
                rfl
              refine pure_ (i := 27) (N := some 134) (v := ?_) (a' := ?_) ref_block_r29.l27 rfl rfl (any_of HT_.out (by kernel_rfl)) (fun _ _ _ h => h) (Or.inl ⟨by rfl, ?_⟩) ?_ ?_
              rotate_left
              · intro w'
                go_simp
                with_reducible rfl
              rotate_left
              · simp only [Act.put, List.setIfInBounds_toArray, List.set_cons_zero, List.set_cons_succ, i64_w, i32_w]
                rfl
              refine take_ (i := 28) (N := some 135) (v := ?_) (a' := ?_) ref_block_r29.l28 rfl rfl (take_ofW HT_.out HW_.out (by kernel_rfl)) (fun _ _ _ h => h) (Or.inl ⟨by rfl, ?_⟩) hHeld ?_ ?_
              rotate_left
              · intro w' hs_
                obtain ⟨s0, s1⟩ := hs_
                go_simp
                with_reducible rfl
              rotate_left
              · simp only [Act.put, List.setIfInBounds_toArray, List.set_cons_zero, List.set_cons_succ, i64_w, i32_w]
                rfl
              refine last_ (i := 29) (N := some 136) ref_block_r29.l29 rfl rfl (one_of HT_.out (by kernel_rfl)) (by decide) (fun K hK => ?_)
              clear hHeld
              refine goes_ Tryd.func29 (by kernel_rfl) rfl #[.pointer (some ⟨g12, 0, none⟩), .int .i64 3, .int .i64 (wrap64 4), .int .i64 (wrap64 9), .int .i64 (wrap64 14), .int .u64 m1, .int .u64 m2] (by rfl) rfl rfl (by (try simp only [List.map_toArray, List.map_cons, List.map_nil]); first | done | rfl) ?_
              refine (HMX.out _ ((HA'.out.drew.drewN _).drewN _)).mono ?_
              rintro e wn ⟨rfl, ha_, hg_⟩
              refine ⟨_, rfl, ?_⟩
              refine hK.out _ _ ?_
              clear hK K
              refine norm_ (a' := ?_) ?_ ?_
              rotate_left
              · show Act.put _ (some 136) _ = _
                simp only [Act.put, List.setIfInBounds_toArray, List.set_cons_zero, List.set_cons_succ, i64_w, i32_w]
                rfl
              refine done_ (done_of HT_.out (by kernel_rfl)) ?_
              clear HT_ HW_
              rw [HE.out] at ha_
              have HA2 := Aside0.mk ha_
              have HG3 := Aside0.mk (grown_step (grown_drewN (grown_drewN (grown_drew HG2.out) _) _) hg_)
              clear ha_ hg_ s0 s1
              go_wp2
              exact ⟨⟨4, rfl, ⟨by decide, by decide⟩, ⟨_, (ref_mix_length _ _ _ _ _ _ _).trans HVn.out, HA2.out, runB_rest _ _ _ _ 3 (by decide) HR'.out⟩, HG3⟩, by simp [intOf]⟩
        · have d0 : decide (x < 12) = false := decide_eq_false hlt
          have hx9 : x = 12 := by omega
          subst hx9
          have hve : V = VF := hR
          subst hve
          have A14 := Aside0.mk hV
          have HVl := Aside0.mk hVl
          have A4e := Aside0.mk (A4d.out.grown (by rw [HHl.out]; decide) HG.out (by have := N1.out; simpa using this.symm))
          have T8e := Aside0.mk (there_of_block T8d.out (HG.out.block g8 LT8d.out (by have := N3.out; simpa using this.symm)))
          have G1e := Aside0.mk (G1d.out.grown HG.out G1d.out.size (fun j hj => by cases hj; exact G12n.out))
          have LT12e := Aside0.mk (A14.out.lt (by rw [hVl]; decide))
          have LT8e : Aside0 (g8 < wr.heap.size) := ⟨Nat.lt_of_lt_of_le LT8d.out HG.out.size⟩
          have HBF := Aside0.mk (HBL.out V HVF.out)
          obtain ⟨wC, hwC⟩ : ∃ wC, wC = wr := ⟨_, rfl⟩
          subst hwC
          clear hV hVl hR HV HG hx0 hx1 hlt
          go_wp2
          go_loopw [19] (fun i wr => ∃ x : Int, i = .int .i64 x ∧ (0 ≤ x ∧ x ≤ 8) ∧ Aside0 (∃ Hx, Hx.length = 8 ∧ Arr wr g4 Hx ∧ outR V (List.range' x.toNat (8 - x.toNat)) Hx = outR V (List.range 8) H) ∧ Aside0 (wC.grownBy wr (some g4)))
            (fun i _ => 8 - (intOf i).toNat)
          case atStart => exact ⟨0, rfl, ⟨by omega, by omega⟩, ⟨H, HHl.out, A4e.out, by rw [List.range_eq_range']; rfl⟩, ⟨World.grownBy.refl _ _⟩⟩
          case round =>
          obtain ⟨x, rfl, ⟨hx0, hx1⟩, HV, HG⟩ := hrel
          obtain ⟨Hx, hHl, hHx, hR⟩ := HV.out
          by_cases hlt : x < 8
          · have d0 : decide (x < 8) = true := decide_eq_true hlt
            obtain ⟨y, hy⟩ : ∃ y, wrap64 (x + 8) = y := ⟨_, rfl⟩
            have hy' : y = x + 8 := by rw [← hy]; unfold wrap64; omega
            have y0 : 0 ≤ y := by omega
            have y1 : y < 16 := by omega
            have x16 : x < 16 := by omega
            have xw : wrap64 (x + 1) = x + 1 := by unfold wrap64; omega
            have a7 := A14.out.grown (by rw [HVl.out]; decide) HG.out (by have := N1.out; simpa using this)
            obtain ⟨v_h, hv_h⟩ : ∃ v, v = Hx.getD x.toNat 0 := ⟨_, rfl⟩
            obtain ⟨v_q1, hv_p⟩ : ∃ v, v = V.getD x.toNat 0 := ⟨_, rfl⟩
            obtain ⟨v_q, hv_q⟩ : ∃ v, v = V.getD y.toNat 0 := ⟨_, rfl⟩
            have s0 := hHx.cell x.toNat (by omega)
            have s1 := a7.cell x.toNat (by rw [HVl.out]; omega)
            have s2 := a7.cell y.toNat (by rw [HVl.out]; omega)
            have s3 := hHx.frozen x.toNat (by omega)
            rw [← hv_h] at s0
            rw [← hv_p] at s1
            rw [← hv_q] at s2
            have Hv_h := Aside0.mk hv_h
            have Hv_p2 := Aside0.mk hv_p
            have Hv_q := Aside0.mk hv_q
            have HHx := Aside0.mk hHx
            have HHl2 := Aside0.mk hHl
            have HR := Aside0.mk hR
            have HY := Aside0.mk hy'
            clear a7 hv_h hv_p hv_q hHx hHl hR hy' HV
            go_upto_region 33 with (fail)
            refine start_ (n := 15) (S := fun w' => w'.cell? ⟨g4, x.toNat, none⟩ = some (.int .u64 v_h) ∧ w'.cell? ⟨g12, x.toNat, none⟩ = some (.int .u64 v_q1) ∧ w'.cell? ⟨g12, y.toNat, none⟩ = some (.int .u64 v_q) ∧ w'.frozen? ⟨g4, x.toNat, none⟩ = false) (ds := [14]) #[false, false, false, false, false, false, false, false, false, false, false, false, false, false, false] (by kernel_rfl) rfl rfl ⟨s0, s1, s2, s3⟩ (fun hHeld => ?_)
            refine with_tabW ref_block_r33.tab ref_block_r33.bits (fun HT_ HW_ => ?_)
            refine pure_ (i := 0) (N := some 141) (v := ?_) (a' := ?_) ref_block_r33.l0 rfl rfl (any_of HT_.out (by kernel_rfl)) (fun _ _ _ h => h) (Or.inl ⟨by rfl, ?_⟩) ?_ ?_
            rotate_left
            · intro w'
              go_simp
              with_reducible rfl
            rotate_left
            · simp only [Act.put, List.setIfInBounds_toArray, List.set_cons_zero, List.set_cons_succ, i64_w, i32_w]
              rfl
            refine pure_ (i := 1) (N := some 142) (v := ?_) (a' := ?_) ref_block_r33.l1 rfl rfl (any_of HT_.out (by kernel_rfl)) (fun _ _ _ h => h) (Or.inl ⟨by rfl, ?_⟩) ?_ ?_
            rotate_left
            · intro w'
              go_simp
              with_reducible rfl
            rotate_left
            · simp only [Act.put, List.setIfInBounds_toArray, List.set_cons_zero, List.set_cons_succ, i64_w, i32_w]
              rfl
            refine pure_ (i := 2) (N := some 143) (v := ?_) (a' := ?_) ref_block_r33.l2 rfl rfl (any_of HT_.out (by kernel_rfl)) (fun _ _ _ h => h) (Or.inl ⟨by rfl, ?_⟩) ?_ ?_
            rotate_left
            · intro w'
              go_simp
              with_reducible rfl
            rotate_left
            · simp only [Act.put, List.setIfInBounds_toArray, List.set_cons_zero, List.set_cons_succ, i64_w, i32_w]
              rfl
            refine take_ (i := 3) (N := some 144) (v := ?_) (a' := ?_) ref_block_r33.l3 rfl rfl (take_ofW HT_.out HW_.out (by kernel_rfl)) (fun _ _ _ h => h) (Or.inl ⟨by rfl, ?_⟩) hHeld ?_ ?_
            rotate_left
            · intro w' hs_
              obtain ⟨s0, s1, s2, s3⟩ := hs_
              go_simp
              with_reducible rfl
            rotate_left
            · simp only [Act.put, List.setIfInBounds_toArray, List.set_cons_zero, List.set_cons_succ, i64_w, i32_w]
              rfl
            refine pure_ (i := 4) (N := some 145) (v := ?_) (a' := ?_) ref_block_r33.l4 rfl rfl (any_of HT_.out (by kernel_rfl)) (fun _ _ _ h => h) (Or.inl ⟨by rfl, ?_⟩) ?_ ?_
            rotate_left
            · intro w'
              go_simp
              with_reducible rfl
            rotate_left
            · simp only [Act.put, List.setIfInBounds_toArray, List.set_cons_zero, List.set_cons_succ, i64_w, i32_w]
              rfl
            refine pure_ (i := 5) (N := some 146) (v := ?_) (a' := ?_) ref_block_r33.l5 rfl rfl (any_of HT_.out (by kernel_rfl)) (fun _ _ _ h => h) (Or.inl ⟨by rfl, ?_⟩) ?_ ?_
            rotate_left
            · intro w'
              go_simp
              with_reducible rfl
            rotate_left
            · simp only [Act.put, List.setIfInBounds_toArray, List.set_cons_zero, List.set_cons_succ, i64_w, i32_w]
              rfl
            refine take_ (i := 6) (N := some 147) (v := ?_) (a' := ?_) ref_block_r33.l6 rfl rfl (take_ofW HT_.out HW_.out (by kernel_rfl)) (fun _ _ _ h => h) (Or.inl ⟨by rfl, ?_⟩) hHeld ?_ ?_
            rotate_left
            · intro w' hs_
              obtain ⟨s0, s1, s2, s3⟩ := hs_
              go_simp
              with_reducible rfl
            rotate_left
            · simp only [Act.put, List.setIfInBounds_toArray, List.set_cons_zero, List.set_cons_succ, i64_w, i32_w]
              rfl
            refine pure_ (i := 7) (N := some 148) (v := ?_) (a' := ?_) ref_block_r33.l7 rfl rfl (any_of HT_.out (by kernel_rfl)) (fun _ _ _ h => h) (Or.inl ⟨by rfl, ?_⟩) ?_ ?_
            rotate_left
            · intro w'
              go_simp
              with_reducible rfl
            rotate_left
            · simp only [Act.put, List.setIfInBounds_toArray, List.set_cons_zero, List.set_cons_succ, i64_w, i32_w]
              rfl
            refine pure_ (i := 8) (N := some 149) (v := ?_) (a' := ?_) ref_block_r33.l8 rfl rfl (any_of HT_.out (by kernel_rfl)) (fun _ _ _ h => h) (Or.inl ⟨by rfl, ?_⟩) ?_ ?_
            rotate_left
            · intro w'
              go_simp
              with_reducible rfl
            rotate_left
            · simp only [Act.put, List.setIfInBounds_toArray, List.set_cons_zero, List.set_cons_succ, i64_w, i32_w]
              rfl
            refine pure_ (i := 9) (N := some 150) (v := ?_) (a' := ?_) ref_block_r33.l9 rfl rfl (any_of HT_.out (by kernel_rfl)) (fun _ _ _ h => h) (Or.inl ⟨by rfl, ?_⟩) ?_ ?_
            rotate_left
            · intro w'
              go_simp
              with_reducible rfl
            rotate_left
            · simp only [Act.put, List.setIfInBounds_toArray, List.set_cons_zero, List.set_cons_succ, i64_w, i32_w]
              rfl
            refine pure_ (i := 10) (N := some 151) (v := ?_) (a' := ?_) ref_block_r33.l10 rfl rfl (any_of HT_.out (by kernel_rfl)) (fun _ _ _ h => h) (Or.inl ⟨by rfl, ?_⟩) ?_ ?_
            rotate_left
            · intro w'
              go_simp
              with_reducible rfl
            rotate_left
            · simp only [Act.put, List.setIfInBounds_toArray, List.set_cons_zero, List.set_cons_succ, i64_w, i32_w]
              rfl
            refine take_ (i := 11) (N := some 152) (v := ?_) (a' := ?_) ref_block_r33.l11 rfl rfl (take_ofW HT_.out HW_.out (by kernel_rfl)) (fun _ _ _ h => h) (Or.inl ⟨by rfl, ?_⟩) hHeld ?_ ?_
            rotate_left
            · intro w' hs_
              obtain ⟨s0, s1, s2, s3⟩ := hs_
              go_simp
              with_reducible rfl
            rotate_left
            · simp only [Act.put, List.setIfInBounds_toArray, List.set_cons_zero, List.set_cons_succ, i64_w, i32_w]
              rfl
            refine pure_ (i := 12) (N := some 153) (v := ?_) (a' := ?_) ref_block_r33.l12 rfl rfl (any_of HT_.out (by kernel_rfl)) (fun _ _ _ h => h) (Or.inl ⟨by rfl, ?_⟩) ?_ ?_
            rotate_left
            · intro w'
              go_simp
              with_reducible rfl
            rotate_left
            · simp only [Act.put, List.setIfInBounds_toArray, List.set_cons_zero, List.set_cons_succ, i64_w, i32_w]
              rfl
            refine pure_ (i := 13) (N := some 154) (v := ?_) (a' := ?_) ref_block_r33.l13 rfl rfl (any_of HT_.out (by kernel_rfl)) (fun _ _ _ h => h) (Or.inl ⟨by rfl, ?_⟩) ?_ ?_
            rotate_left
            · intro w'
              go_simp
              with_reducible rfl
            rotate_left
            · simp only [Act.put, List.setIfInBounds_toArray, List.set_cons_zero, List.set_cons_succ, i64_w, i32_w]
              rfl
            refine last_ (i := 14) (N := none) ref_block_r33.l14 rfl rfl (one_of HT_.out (by kernel_rfl)) (by decide) (fun K hK => ?_)
            clear hHeld
            refine skip_ (w1 := World.setCell wr.drew ⟨g4, x.toNat, none⟩ (.int .u64 (Go.bits .xor .u64 (Go.bits .xor .u64 v_h v_q1) v_q))) (by rfl) rfl ?_ ?_
            · go_simp
            refine hK.out _ _ ?_
            clear hK K
            refine done_ (done_of HT_.out (by kernel_rfl)) ?_
            clear HT_ HW_
            have n0_ := HHx.out.drew.set x.toNat (by rw [HHl2.out]; omega) (Go.bits .xor .u64 (Go.bits .xor .u64 v_h v_q1) v_q)
            have n1_ := grown_set (grown_drew HG.out) x.toNat (.int .u64 (Go.bits .xor .u64 (Go.bits .xor .u64 v_h v_q1) v_q))
            generalize World.setCell _ _ _ = wn at n0_ n1_ ⊢
            have HA2 := Aside0.mk n0_
            have HG2 := Aside0.mk n1_
            clear n0_ n1_ s0 s1 s2 s3
            go_wp2
            have hy' := HY.out
            have e : y.toNat = x.toNat + 8 := by omega
            exact ⟨⟨x + 1, by first | rfl | (rw [xw]) | (simp [xw]), ⟨by omega, by omega⟩, ⟨_, (List.length_set).trans HHl2.out, HA2.out, by rw [show (x + 1).toNat = x.toNat + 1 by omega, Hv_h.out, Hv_p2.out, Hv_q.out, e]; exact outR_rest _ _ _ x.toNat (by omega) HR.out⟩, HG2⟩, by simp [intOf]; omega⟩
          · have d0 : decide (x < 8) = false := decide_eq_false hlt
            have hx9 : x = 8 := by omega
            subst hx9
            have hR' : Hx = outR V (List.range 8) H := hR
            have HR := Aside0.mk hR'
            obtain ⟨L, hL⟩ : ∃ L, L = Hx.map (Value.int .u64) := ⟨_, rfl⟩
            have hrg := hHx.range
            rw [← hL] at hrg
            have HRG := Aside0.mk hrg
            have HL := Aside0.mk hL
            have HLl : Aside0 (L.length = 8) := ⟨by rw [hL, List.length_map, hHl]⟩
            have HLo : Aside0 (∀ v ∈ L, v.oneCell' = true) := ⟨by rw [hL]; exact one_of_map _⟩
            have T8g := Aside0.mk (there_of_block T8e.out (HG.out.block g8 LT8e.out (by have := NE48.out; simpa using this.symm)))
            have G1g := Aside0.mk (G1e.out.grown HG.out G1e.out.size (fun j hj => by cases hj; exact G4n.out))
            clear hR hR' hL hrg hHl hHx HV hx0 hx1 hlt
            go_wp2_with (first
              | ((with_reducible refine gate_dst (N := 155) rfl ?_); refine wpList_load_mid rfl 41 _ rfl g4 0 rfl L _ HRG.out Tryd.underlying41 rfl (by rw [HLl.out]; exact size_of info_a8) ?_)
              | ((with_reducible refine gate_store (t := 41) (p := 8) rfl ?_); refine wpList_store_mid rfl 41 _ _ rfl g8 0 L.toArray rfl rfl (by rw [List.size_toArray, HLl.out, ← HZ8l.out]; exact T8g.out) (by rw [List.size_toArray, HLl.out]; exact size_of info_a8) (all_oneCell_toArray HLo.out) ?_))
            have BR := World.rangeAt_setCells_same wr g8 0 L (by rw [HLl.out, ← HZ8l.out]; exact T8g.out)
            have hres := run_loadVar_mid (P := Tryd.prog) (wr.setCells g8 0 L) g8 0 41 L _ BR Tryd.underlying41 rfl (by rw [HLl.out]; exact size_of info_a8)
            refine bodyPost_ret (v := .agg L.toArray) (results_cell rfl _ rfl hres) rfl ?_
            refine ⟨?_, below_setCells g8 G8n.out L 0 wr G1g.out⟩
            rw [HL.out, HR.out, HBF.out])
end Go.Proofs.YtpcokihfecbigaaDoor.G
