/- the reference's mix: four words of an array are mixed with two (laid by mkblake.py) -/
import Derived.Test.YtpcokihfecbigaaDoorBArr
import Derived.Test.YtpcokihfecbigaaDoorGx1
namespace Go.Proofs.YtpcokihfecbigaaDoor.G
open Go.RowKit Go.Proofs.YtpcokihfecbigaaDoorW.PrintWords Go.Proofs.YtpcokihfecbigaaDoorW.PrintLast Go.Proofs.YtpcokihfecbigaaDoorW.PrintMore
set_option linter.unusedVariables false
set_option linter.unusedSimpArgs false
theorem rotR_some32 (x : Int) : althingref2_turned.f x 32 = some (rotR 32 x) := by
  have e : IntKind.u64.wrap (64 - 32) = 64 - 32 := by decide +kernel
  unfold althingref2_turned.f rotR
  rw [e, if_pos (by decide), if_pos (by decide)]
theorem rotR_some24 (x : Int) : althingref2_turned.f x 24 = some (rotR 24 x) := by
  have e : IntKind.u64.wrap (64 - 24) = 64 - 24 := by decide +kernel
  unfold althingref2_turned.f rotR
  rw [e, if_pos (by decide), if_pos (by decide)]
theorem rotR_some16 (x : Int) : althingref2_turned.f x 16 = some (rotR 16 x) := by
  have e : IntKind.u64.wrap (64 - 16) = 64 - 16 := by decide +kernel
  unfold althingref2_turned.f rotR
  rw [e, if_pos (by decide), if_pos (by decide)]
theorem rotR_some63 (x : Int) : althingref2_turned.f x 63 = some (rotR 63 x) := by
  have e : IntKind.u64.wrap (64 - 63) = 64 - 63 := by decide +kernel
  unfold althingref2_turned.f rotR
  rw [e, if_pos (by decide), if_pos (by decide)]
def ref_mix.step (k : Nat) (V : List Int) (a b c d : Nat) (x y : Int) : List Int := match k with
  | 0 => V.set a (wr (wr (V.getD a 0 + V.getD b 0) + x))
  | 1 => V.set d (rotR 32 (Go.bits .xor .u64 (V.getD d 0) (V.getD a 0)))
  | 2 => V.set c (wr (V.getD c 0 + V.getD d 0))
  | 3 => V.set b (rotR 24 (Go.bits .xor .u64 (V.getD b 0) (V.getD c 0)))
  | 4 => V.set a (wr (wr (V.getD a 0 + V.getD b 0) + y))
  | 5 => V.set d (rotR 16 (Go.bits .xor .u64 (V.getD d 0) (V.getD a 0)))
  | 6 => V.set c (wr (V.getD c 0 + V.getD d 0))
  | 7 => V.set b (rotR 63 (Go.bits .xor .u64 (V.getD b 0) (V.getD c 0)))
  | _ => V
def ref_mix.f (V : List Int) (a b c d : Nat) (x y : Int) : List Int := [0, 1, 2, 3, 4, 5, 6, 7].foldl (fun V k => ref_mix.step k V a b c d x y) V
theorem ref_mix.step_length (k : Nat) (V : List Int) (a b c d : Nat) (x y : Int) : (ref_mix.step k V a b c d x y).length = V.length := by
  unfold ref_mix.step; split <;> simp
def ref_mix_r0.T : Bool × List (List Nat × List Nat) := (true, [([], []), ([], []), ([], []), ([], []), ([2], [2]), ([4, 3], [3, 4]), ([5], [5]), ([], []), ([], []), ([7], [7]), ([9, 8], [8, 9]), ([10], [10]), ([6, 11], [6, 11]), ([], []), ([12, 13], [12, 13]), ([0], [0]), ([15, 1, 0, 1, 2, 3, 4, 5, 6, 7, 8, 9, 10, 11, 12, 13, 14], [1, 15]), ([16, 14, 0, 1, 2, 3, 4, 5, 6, 7, 8, 9, 10, 11, 12, 13, 14], [14, 16])])
def ref_mix_r0.B : List Nat := [0, 0, 0, 0, 4, 28, 60, 0, 0, 128, 896, 1920, 4092, 0, 16380, 1, 65535, 131071]
theorem ref_mix_r0.tab : rtab .any (opsOf Tryd.f29 0) = ref_mix_r0.T := by kernel_rfl
theorem ref_mix_r0.bits : waitsOk ref_mix_r0.T.2 ref_mix_r0.B = true := by kernel_rfl
def ref_mix_r1.T : Bool × List (List Nat × List Nat) := (true, [([], []), ([], []), ([], []), ([], []), ([2], [2]), ([4, 3], [3, 4]), ([5], [5]), ([], []), ([], []), ([7], [7]), ([9, 8], [8, 9]), ([10], [10]), ([6, 11], [6, 11]), ([12], [12]), ([0], [0]), ([14, 1, 0, 1, 2, 3, 4, 5, 6, 7, 8, 9, 10, 11, 12, 13], [1, 14]), ([15, 13, 13, 0, 1, 2, 3, 4, 5, 6, 7, 8, 9, 10, 11, 12, 13], [13, 15])])
def ref_mix_r1.B : List Nat := [0, 0, 0, 0, 4, 28, 60, 0, 0, 128, 896, 1920, 4092, 8188, 1, 32767, 65535]
theorem ref_mix_r1.tab : rtab .any (opsOf Tryd.f29 1) = ref_mix_r1.T := by kernel_rfl
theorem ref_mix_r1.bits : waitsOk ref_mix_r1.T.2 ref_mix_r1.B = true := by kernel_rfl
def ref_mix_r2.T : Bool × List (List Nat × List Nat) := (true, [([], []), ([], []), ([], []), ([], []), ([2], [2]), ([4, 3], [3, 4]), ([5], [5]), ([], []), ([], []), ([7], [7]), ([9, 8], [8, 9]), ([10], [10]), ([6, 11], [6, 11]), ([0], [0]), ([13, 1, 0, 1, 2, 3, 4, 5, 6, 7, 8, 9, 10, 11, 12], [1, 13]), ([14, 12, 0, 1, 2, 3, 4, 5, 6, 7, 8, 9, 10, 11, 12], [12, 14])])
def ref_mix_r2.B : List Nat := [0, 0, 0, 0, 4, 28, 60, 0, 0, 128, 896, 1920, 4092, 1, 16383, 32767]
theorem ref_mix_r2.tab : rtab .any (opsOf Tryd.f29 2) = ref_mix_r2.T := by kernel_rfl
theorem ref_mix_r2.bits : waitsOk ref_mix_r2.T.2 ref_mix_r2.B = true := by kernel_rfl
def ref_mix_r3.T : Bool × List (List Nat × List Nat) := (true, [([], []), ([], []), ([], []), ([], []), ([2], [2]), ([4, 3], [3, 4]), ([5], [5]), ([], []), ([], []), ([7], [7]), ([9, 8], [8, 9]), ([10], [10]), ([6, 11], [6, 11]), ([12], [12]), ([0], [0]), ([14, 1, 0, 1, 2, 3, 4, 5, 6, 7, 8, 9, 10, 11, 12, 13], [1, 14]), ([15, 13, 13, 0, 1, 2, 3, 4, 5, 6, 7, 8, 9, 10, 11, 12, 13], [13, 15])])
def ref_mix_r3.B : List Nat := [0, 0, 0, 0, 4, 28, 60, 0, 0, 128, 896, 1920, 4092, 8188, 1, 32767, 65535]
theorem ref_mix_r3.tab : rtab .any (opsOf Tryd.f29 3) = ref_mix_r3.T := by kernel_rfl
theorem ref_mix_r3.bits : waitsOk ref_mix_r3.T.2 ref_mix_r3.B = true := by kernel_rfl
def ref_mix_r4.T : Bool × List (List Nat × List Nat) := (true, [([], []), ([], []), ([], []), ([], []), ([2], [2]), ([4, 3], [3, 4]), ([5], [5]), ([], []), ([], []), ([7], [7]), ([9, 8], [8, 9]), ([10], [10]), ([6, 11], [6, 11]), ([], []), ([12, 13], [12, 13]), ([0], [0]), ([15, 1, 0, 1, 2, 3, 4, 5, 6, 7, 8, 9, 10, 11, 12, 13, 14], [1, 15]), ([16, 14, 0, 1, 2, 3, 4, 5, 6, 7, 8, 9, 10, 11, 12, 13, 14], [14, 16])])
def ref_mix_r4.B : List Nat := [0, 0, 0, 0, 4, 28, 60, 0, 0, 128, 896, 1920, 4092, 0, 16380, 1, 65535, 131071]
theorem ref_mix_r4.tab : rtab .any (opsOf Tryd.f29 4) = ref_mix_r4.T := by kernel_rfl
theorem ref_mix_r4.bits : waitsOk ref_mix_r4.T.2 ref_mix_r4.B = true := by kernel_rfl
def ref_mix_r5.T : Bool × List (List Nat × List Nat) := (true, [([], []), ([], []), ([], []), ([], []), ([2], [2]), ([4, 3], [3, 4]), ([5], [5]), ([], []), ([], []), ([7], [7]), ([9, 8], [8, 9]), ([10], [10]), ([6, 11], [6, 11]), ([12], [12]), ([0], [0]), ([14, 1, 0, 1, 2, 3, 4, 5, 6, 7, 8, 9, 10, 11, 12, 13], [1, 14]), ([15, 13, 13, 0, 1, 2, 3, 4, 5, 6, 7, 8, 9, 10, 11, 12, 13], [13, 15])])
def ref_mix_r5.B : List Nat := [0, 0, 0, 0, 4, 28, 60, 0, 0, 128, 896, 1920, 4092, 8188, 1, 32767, 65535]
theorem ref_mix_r5.tab : rtab .any (opsOf Tryd.f29 5) = ref_mix_r5.T := by kernel_rfl
theorem ref_mix_r5.bits : waitsOk ref_mix_r5.T.2 ref_mix_r5.B = true := by kernel_rfl
def ref_mix_r6.T : Bool × List (List Nat × List Nat) := (true, [([], []), ([], []), ([], []), ([], []), ([2], [2]), ([4, 3], [3, 4]), ([5], [5]), ([], []), ([], []), ([7], [7]), ([9, 8], [8, 9]), ([10], [10]), ([6, 11], [6, 11]), ([0], [0]), ([13, 1, 0, 1, 2, 3, 4, 5, 6, 7, 8, 9, 10, 11, 12], [1, 13]), ([14, 12, 0, 1, 2, 3, 4, 5, 6, 7, 8, 9, 10, 11, 12], [12, 14])])
def ref_mix_r6.B : List Nat := [0, 0, 0, 0, 4, 28, 60, 0, 0, 128, 896, 1920, 4092, 1, 16383, 32767]
theorem ref_mix_r6.tab : rtab .any (opsOf Tryd.f29 6) = ref_mix_r6.T := by kernel_rfl
theorem ref_mix_r6.bits : waitsOk ref_mix_r6.T.2 ref_mix_r6.B = true := by kernel_rfl
def ref_mix_r7.T : Bool × List (List Nat × List Nat) := (true, [([], []), ([], []), ([], []), ([], []), ([2], [2]), ([4, 3], [3, 4]), ([5], [5]), ([], []), ([], []), ([7], [7]), ([9, 8], [8, 9]), ([10], [10]), ([6, 11], [6, 11]), ([12], [12]), ([0], [0]), ([14, 1, 0, 1, 2, 3, 4, 5, 6, 7, 8, 9, 10, 11, 12, 13], [1, 14]), ([15, 13, 13, 0, 1, 2, 3, 4, 5, 6, 7, 8, 9, 10, 11, 12, 13], [13, 15])])
def ref_mix_r7.B : List Nat := [0, 0, 0, 0, 4, 28, 60, 0, 0, 128, 896, 1920, 4092, 8188, 1, 32767, 65535]
theorem ref_mix_r7.tab : rtab .any (opsOf Tryd.f29 7) = ref_mix_r7.T := by kernel_rfl
theorem ref_mix_r7.bits : waitsOk ref_mix_r7.T.2 ref_mix_r7.B = true := by kernel_rfl
def ref_mix_r0.l0 : Array Bool := #[true, false, false, false, false, false, false, false, false, false, false, false, false, false, false, false, false, false]
def ref_mix_r0.l1 : Array Bool := #[true, true, false, false, false, false, false, false, false, false, false, false, false, false, false, false, false, false]
def ref_mix_r0.l2 : Array Bool := #[true, true, true, false, false, false, false, false, false, false, false, false, false, false, false, false, false, false]
def ref_mix_r0.l3 : Array Bool := #[true, true, true, true, false, false, false, false, false, false, false, false, false, false, false, false, false, false]
def ref_mix_r0.l4 : Array Bool := #[true, true, true, true, true, false, false, false, false, false, false, false, false, false, false, false, false, false]
def ref_mix_r0.l5 : Array Bool := #[true, true, true, true, true, true, false, false, false, false, false, false, false, false, false, false, false, false]
def ref_mix_r0.l6 : Array Bool := #[true, true, true, true, true, true, true, false, false, false, false, false, false, false, false, false, false, false]
def ref_mix_r0.l7 : Array Bool := #[true, true, true, true, true, true, true, true, false, false, false, false, false, false, false, false, false, false]
def ref_mix_r0.l8 : Array Bool := #[true, true, true, true, true, true, true, true, true, false, false, false, false, false, false, false, false, false]
def ref_mix_r0.l9 : Array Bool := #[true, true, true, true, true, true, true, true, true, true, false, false, false, false, false, false, false, false]
def ref_mix_r0.l10 : Array Bool := #[true, true, true, true, true, true, true, true, true, true, true, false, false, false, false, false, false, false]
def ref_mix_r0.l11 : Array Bool := #[true, true, true, true, true, true, true, true, true, true, true, true, false, false, false, false, false, false]
def ref_mix_r0.l12 : Array Bool := #[true, true, true, true, true, true, true, true, true, true, true, true, true, false, false, false, false, false]
def ref_mix_r0.l13 : Array Bool := #[true, true, true, true, true, true, true, true, true, true, true, true, true, true, false, false, false, false]
def ref_mix_r0.l14 : Array Bool := #[true, true, true, true, true, true, true, true, true, true, true, true, true, true, true, false, false, false]
def ref_mix_r0.l15 : Array Bool := #[true, true, true, true, true, true, true, true, true, true, true, true, true, true, true, true, false, false]
def ref_mix_r0.l16 : Array Bool := #[true, true, true, true, true, true, true, true, true, true, true, true, true, true, true, true, true, false]
def ref_mix_r0.l17 : Array Bool := #[true, true, true, true, true, true, true, true, true, true, true, true, true, true, true, true, true, true]
def ref_mix_r1.l0 : Array Bool := #[true, false, false, false, false, false, false, false, false, false, false, false, false, false, false, false, false]
def ref_mix_r1.l1 : Array Bool := #[true, true, false, false, false, false, false, false, false, false, false, false, false, false, false, false, false]
def ref_mix_r1.l2 : Array Bool := #[true, true, true, false, false, false, false, false, false, false, false, false, false, false, false, false, false]
def ref_mix_r1.l3 : Array Bool := #[true, true, true, true, false, false, false, false, false, false, false, false, false, false, false, false, false]
def ref_mix_r1.l4 : Array Bool := #[true, true, true, true, true, false, false, false, false, false, false, false, false, false, false, false, false]
def ref_mix_r1.l5 : Array Bool := #[true, true, true, true, true, true, false, false, false, false, false, false, false, false, false, false, false]
def ref_mix_r1.l6 : Array Bool := #[true, true, true, true, true, true, true, false, false, false, false, false, false, false, false, false, false]
def ref_mix_r1.l7 : Array Bool := #[true, true, true, true, true, true, true, true, false, false, false, false, false, false, false, false, false]
def ref_mix_r1.l8 : Array Bool := #[true, true, true, true, true, true, true, true, true, false, false, false, false, false, false, false, false]
def ref_mix_r1.l9 : Array Bool := #[true, true, true, true, true, true, true, true, true, true, false, false, false, false, false, false, false]
def ref_mix_r1.l10 : Array Bool := #[true, true, true, true, true, true, true, true, true, true, true, false, false, false, false, false, false]
def ref_mix_r1.l11 : Array Bool := #[true, true, true, true, true, true, true, true, true, true, true, true, false, false, false, false, false]
def ref_mix_r1.l12 : Array Bool := #[true, true, true, true, true, true, true, true, true, true, true, true, true, false, false, false, false]
def ref_mix_r1.l13 : Array Bool := #[true, true, true, true, true, true, true, true, true, true, true, true, true, false, true, false, false]
def ref_mix_r1.l14 : Array Bool := #[true, true, true, true, true, true, true, true, true, true, true, true, true, true, true, false, false]
def ref_mix_r1.l15 : Array Bool := #[true, true, true, true, true, true, true, true, true, true, true, true, true, true, true, true, false]
def ref_mix_r1.l16 : Array Bool := #[true, true, true, true, true, true, true, true, true, true, true, true, true, true, true, true, true]
def ref_mix_r2.l0 : Array Bool := #[true, false, false, false, false, false, false, false, false, false, false, false, false, false, false, false]
def ref_mix_r2.l1 : Array Bool := #[true, true, false, false, false, false, false, false, false, false, false, false, false, false, false, false]
def ref_mix_r2.l2 : Array Bool := #[true, true, true, false, false, false, false, false, false, false, false, false, false, false, false, false]
def ref_mix_r2.l3 : Array Bool := #[true, true, true, true, false, false, false, false, false, false, false, false, false, false, false, false]
def ref_mix_r2.l4 : Array Bool := #[true, true, true, true, true, false, false, false, false, false, false, false, false, false, false, false]
def ref_mix_r2.l5 : Array Bool := #[true, true, true, true, true, true, false, false, false, false, false, false, false, false, false, false]
def ref_mix_r2.l6 : Array Bool := #[true, true, true, true, true, true, true, false, false, false, false, false, false, false, false, false]
def ref_mix_r2.l7 : Array Bool := #[true, true, true, true, true, true, true, true, false, false, false, false, false, false, false, false]
def ref_mix_r2.l8 : Array Bool := #[true, true, true, true, true, true, true, true, true, false, false, false, false, false, false, false]
def ref_mix_r2.l9 : Array Bool := #[true, true, true, true, true, true, true, true, true, true, false, false, false, false, false, false]
def ref_mix_r2.l10 : Array Bool := #[true, true, true, true, true, true, true, true, true, true, true, false, false, false, false, false]
def ref_mix_r2.l11 : Array Bool := #[true, true, true, true, true, true, true, true, true, true, true, true, false, false, false, false]
def ref_mix_r2.l12 : Array Bool := #[true, true, true, true, true, true, true, true, true, true, true, true, true, false, false, false]
def ref_mix_r2.l13 : Array Bool := #[true, true, true, true, true, true, true, true, true, true, true, true, true, true, false, false]
def ref_mix_r2.l14 : Array Bool := #[true, true, true, true, true, true, true, true, true, true, true, true, true, true, true, false]
def ref_mix_r2.l15 : Array Bool := #[true, true, true, true, true, true, true, true, true, true, true, true, true, true, true, true]
def ref_mix_r3.l0 : Array Bool := #[true, false, false, false, false, false, false, false, false, false, false, false, false, false, false, false, false]
def ref_mix_r3.l1 : Array Bool := #[true, true, false, false, false, false, false, false, false, false, false, false, false, false, false, false, false]
def ref_mix_r3.l2 : Array Bool := #[true, true, true, false, false, false, false, false, false, false, false, false, false, false, false, false, false]
def ref_mix_r3.l3 : Array Bool := #[true, true, true, true, false, false, false, false, false, false, false, false, false, false, false, false, false]
def ref_mix_r3.l4 : Array Bool := #[true, true, true, true, true, false, false, false, false, false, false, false, false, false, false, false, false]
def ref_mix_r3.l5 : Array Bool := #[true, true, true, true, true, true, false, false, false, false, false, false, false, false, false, false, false]
def ref_mix_r3.l6 : Array Bool := #[true, true, true, true, true, true, true, false, false, false, false, false, false, false, false, false, false]
def ref_mix_r3.l7 : Array Bool := #[true, true, true, true, true, true, true, true, false, false, false, false, false, false, false, false, false]
def ref_mix_r3.l8 : Array Bool := #[true, true, true, true, true, true, true, true, true, false, false, false, false, false, false, false, false]
def ref_mix_r3.l9 : Array Bool := #[true, true, true, true, true, true, true, true, true, true, false, false, false, false, false, false, false]
def ref_mix_r3.l10 : Array Bool := #[true, true, true, true, true, true, true, true, true, true, true, false, false, false, false, false, false]
def ref_mix_r3.l11 : Array Bool := #[true, true, true, true, true, true, true, true, true, true, true, true, false, false, false, false, false]
def ref_mix_r3.l12 : Array Bool := #[true, true, true, true, true, true, true, true, true, true, true, true, true, false, false, false, false]
def ref_mix_r3.l13 : Array Bool := #[true, true, true, true, true, true, true, true, true, true, true, true, true, false, true, false, false]
def ref_mix_r3.l14 : Array Bool := #[true, true, true, true, true, true, true, true, true, true, true, true, true, true, true, false, false]
def ref_mix_r3.l15 : Array Bool := #[true, true, true, true, true, true, true, true, true, true, true, true, true, true, true, true, false]
def ref_mix_r3.l16 : Array Bool := #[true, true, true, true, true, true, true, true, true, true, true, true, true, true, true, true, true]
def ref_mix_r4.l0 : Array Bool := #[true, false, false, false, false, false, false, false, false, false, false, false, false, false, false, false, false, false]
def ref_mix_r4.l1 : Array Bool := #[true, true, false, false, false, false, false, false, false, false, false, false, false, false, false, false, false, false]
def ref_mix_r4.l2 : Array Bool := #[true, true, true, false, false, false, false, false, false, false, false, false, false, false, false, false, false, false]
def ref_mix_r4.l3 : Array Bool := #[true, true, true, true, false, false, false, false, false, false, false, false, false, false, false, false, false, false]
def ref_mix_r4.l4 : Array Bool := #[true, true, true, true, true, false, false, false, false, false, false, false, false, false, false, false, false, false]
def ref_mix_r4.l5 : Array Bool := #[true, true, true, true, true, true, false, false, false, false, false, false, false, false, false, false, false, false]
def ref_mix_r4.l6 : Array Bool := #[true, true, true, true, true, true, true, false, false, false, false, false, false, false, false, false, false, false]
def ref_mix_r4.l7 : Array Bool := #[true, true, true, true, true, true, true, true, false, false, false, false, false, false, false, false, false, false]
def ref_mix_r4.l8 : Array Bool := #[true, true, true, true, true, true, true, true, true, false, false, false, false, false, false, false, false, false]
def ref_mix_r4.l9 : Array Bool := #[true, true, true, true, true, true, true, true, true, true, false, false, false, false, false, false, false, false]
def ref_mix_r4.l10 : Array Bool := #[true, true, true, true, true, true, true, true, true, true, true, false, false, false, false, false, false, false]
def ref_mix_r4.l11 : Array Bool := #[true, true, true, true, true, true, true, true, true, true, true, true, false, false, false, false, false, false]
def ref_mix_r4.l12 : Array Bool := #[true, true, true, true, true, true, true, true, true, true, true, true, true, false, false, false, false, false]
def ref_mix_r4.l13 : Array Bool := #[true, true, true, true, true, true, true, true, true, true, true, true, true, true, false, false, false, false]
def ref_mix_r4.l14 : Array Bool := #[true, true, true, true, true, true, true, true, true, true, true, true, true, true, true, false, false, false]
def ref_mix_r4.l15 : Array Bool := #[true, true, true, true, true, true, true, true, true, true, true, true, true, true, true, true, false, false]
def ref_mix_r4.l16 : Array Bool := #[true, true, true, true, true, true, true, true, true, true, true, true, true, true, true, true, true, false]
def ref_mix_r4.l17 : Array Bool := #[true, true, true, true, true, true, true, true, true, true, true, true, true, true, true, true, true, true]
def ref_mix_r5.l0 : Array Bool := #[true, false, false, false, false, false, false, false, false, false, false, false, false, false, false, false, false]
def ref_mix_r5.l1 : Array Bool := #[true, true, false, false, false, false, false, false, false, false, false, false, false, false, false, false, false]
def ref_mix_r5.l2 : Array Bool := #[true, true, true, false, false, false, false, false, false, false, false, false, false, false, false, false, false]
def ref_mix_r5.l3 : Array Bool := #[true, true, true, true, false, false, false, false, false, false, false, false, false, false, false, false, false]
def ref_mix_r5.l4 : Array Bool := #[true, true, true, true, true, false, false, false, false, false, false, false, false, false, false, false, false]
def ref_mix_r5.l5 : Array Bool := #[true, true, true, true, true, true, false, false, false, false, false, false, false, false, false, false, false]
def ref_mix_r5.l6 : Array Bool := #[true, true, true, true, true, true, true, false, false, false, false, false, false, false, false, false, false]
def ref_mix_r5.l7 : Array Bool := #[true, true, true, true, true, true, true, true, false, false, false, false, false, false, false, false, false]
def ref_mix_r5.l8 : Array Bool := #[true, true, true, true, true, true, true, true, true, false, false, false, false, false, false, false, false]
def ref_mix_r5.l9 : Array Bool := #[true, true, true, true, true, true, true, true, true, true, false, false, false, false, false, false, false]
def ref_mix_r5.l10 : Array Bool := #[true, true, true, true, true, true, true, true, true, true, true, false, false, false, false, false, false]
def ref_mix_r5.l11 : Array Bool := #[true, true, true, true, true, true, true, true, true, true, true, true, false, false, false, false, false]
def ref_mix_r5.l12 : Array Bool := #[true, true, true, true, true, true, true, true, true, true, true, true, true, false, false, false, false]
def ref_mix_r5.l13 : Array Bool := #[true, true, true, true, true, true, true, true, true, true, true, true, true, false, true, false, false]
def ref_mix_r5.l14 : Array Bool := #[true, true, true, true, true, true, true, true, true, true, true, true, true, true, true, false, false]
def ref_mix_r5.l15 : Array Bool := #[true, true, true, true, true, true, true, true, true, true, true, true, true, true, true, true, false]
def ref_mix_r5.l16 : Array Bool := #[true, true, true, true, true, true, true, true, true, true, true, true, true, true, true, true, true]
def ref_mix_r6.l0 : Array Bool := #[true, false, false, false, false, false, false, false, false, false, false, false, false, false, false, false]
def ref_mix_r6.l1 : Array Bool := #[true, true, false, false, false, false, false, false, false, false, false, false, false, false, false, false]
def ref_mix_r6.l2 : Array Bool := #[true, true, true, false, false, false, false, false, false, false, false, false, false, false, false, false]
def ref_mix_r6.l3 : Array Bool := #[true, true, true, true, false, false, false, false, false, false, false, false, false, false, false, false]
def ref_mix_r6.l4 : Array Bool := #[true, true, true, true, true, false, false, false, false, false, false, false, false, false, false, false]
def ref_mix_r6.l5 : Array Bool := #[true, true, true, true, true, true, false, false, false, false, false, false, false, false, false, false]
def ref_mix_r6.l6 : Array Bool := #[true, true, true, true, true, true, true, false, false, false, false, false, false, false, false, false]
def ref_mix_r6.l7 : Array Bool := #[true, true, true, true, true, true, true, true, false, false, false, false, false, false, false, false]
def ref_mix_r6.l8 : Array Bool := #[true, true, true, true, true, true, true, true, true, false, false, false, false, false, false, false]
def ref_mix_r6.l9 : Array Bool := #[true, true, true, true, true, true, true, true, true, true, false, false, false, false, false, false]
def ref_mix_r6.l10 : Array Bool := #[true, true, true, true, true, true, true, true, true, true, true, false, false, false, false, false]
def ref_mix_r6.l11 : Array Bool := #[true, true, true, true, true, true, true, true, true, true, true, true, false, false, false, false]
def ref_mix_r6.l12 : Array Bool := #[true, true, true, true, true, true, true, true, true, true, true, true, true, false, false, false]
def ref_mix_r6.l13 : Array Bool := #[true, true, true, true, true, true, true, true, true, true, true, true, true, true, false, false]
def ref_mix_r6.l14 : Array Bool := #[true, true, true, true, true, true, true, true, true, true, true, true, true, true, true, false]
def ref_mix_r6.l15 : Array Bool := #[true, true, true, true, true, true, true, true, true, true, true, true, true, true, true, true]
def ref_mix_r7.l0 : Array Bool := #[true, false, false, false, false, false, false, false, false, false, false, false, false, false, false, false, false]
def ref_mix_r7.l1 : Array Bool := #[true, true, false, false, false, false, false, false, false, false, false, false, false, false, false, false, false]
def ref_mix_r7.l2 : Array Bool := #[true, true, true, false, false, false, false, false, false, false, false, false, false, false, false, false, false]
def ref_mix_r7.l3 : Array Bool := #[true, true, true, true, false, false, false, false, false, false, false, false, false, false, false, false, false]
def ref_mix_r7.l4 : Array Bool := #[true, true, true, true, true, false, false, false, false, false, false, false, false, false, false, false, false]
def ref_mix_r7.l5 : Array Bool := #[true, true, true, true, true, true, false, false, false, false, false, false, false, false, false, false, false]
def ref_mix_r7.l6 : Array Bool := #[true, true, true, true, true, true, true, false, false, false, false, false, false, false, false, false, false]
def ref_mix_r7.l7 : Array Bool := #[true, true, true, true, true, true, true, true, false, false, false, false, false, false, false, false, false]
def ref_mix_r7.l8 : Array Bool := #[true, true, true, true, true, true, true, true, true, false, false, false, false, false, false, false, false]
def ref_mix_r7.l9 : Array Bool := #[true, true, true, true, true, true, true, true, true, true, false, false, false, false, false, false, false]
def ref_mix_r7.l10 : Array Bool := #[true, true, true, true, true, true, true, true, true, true, true, false, false, false, false, false, false]
def ref_mix_r7.l11 : Array Bool := #[true, true, true, true, true, true, true, true, true, true, true, true, false, false, false, false, false]
def ref_mix_r7.l12 : Array Bool := #[true, true, true, true, true, true, true, true, true, true, true, true, true, false, false, false, false]
def ref_mix_r7.l13 : Array Bool := #[true, true, true, true, true, true, true, true, true, true, true, true, true, false, true, false, false]
def ref_mix_r7.l14 : Array Bool := #[true, true, true, true, true, true, true, true, true, true, true, true, true, true, true, false, false]
def ref_mix_r7.l15 : Array Bool := #[true, true, true, true, true, true, true, true, true, true, true, true, true, true, true, true, false]
def ref_mix_r7.l16 : Array Bool := #[true, true, true, true, true, true, true, true, true, true, true, true, true, true, true, true, true]
set_option maxRecDepth 100000 in
set_option maxHeartbeats 16000000 in
theorem ref_mix.calls (g a b c d : Nat) (V0 : List Int) (x y : Int) (w : World) (ha : a < 16) (hb : b < 16) (hc : c < 16) (hd : d < 16) (hL0 : V0.length = 16) (hA : Arr w g V0) :
    Calls Tryd.prog 29 #[.pointer (some ⟨g, 0, none⟩), .int .i64 a, .int .i64 b, .int .i64 c, .int .i64 d, .int .u64 x, .int .u64 y] w fun e w' => e = .returned (.tuple #[]) ∧ Arr w' g (ref_mix.f V0 a b c d x y) ∧ w.grownBy w' (some g) := by
  have HA := Aside0.mk hA
  have HG := Aside0.mk (World.grownBy.refl w (some g))
  clear hA
  have ba : (a : Int) < 16 := by omega
  have bb : (b : Int) < 16 := by omega
  have bc : (c : Int) < 16 := by omega
  have bd : (d : Int) < 16 := by omega
  go_enter Tryd.func29, Tryd.ntmps29
  have hA0 := HA.out
  have s0 := hA0.cell a (by omega)
  have s1 := hA0.cell b (by omega)
  have s2 := hA0.frozen a (by omega)
  clear hA0
  obtain ⟨v_p0, hv_p⟩ : ∃ v, v = V0.getD a 0 := ⟨_, rfl⟩
  obtain ⟨v_q0, hv_q⟩ : ∃ v, v = V0.getD b 0 := ⟨_, rfl⟩
  rw [← hv_p] at s0
  rw [← hv_q] at s1
  have Hv_p := Aside0.mk hv_p
  have Hv_q := Aside0.mk hv_q
  clear hv_p hv_q
  go_upto_region 0 with (fail)
  refine start_ (n := 18) (S := fun w' => w'.cell? ⟨g, a, none⟩ = some (.int .u64 (v_p0)) ∧ w'.cell? ⟨g, b, none⟩ = some (.int .u64 (v_q0)) ∧ w'.frozen? ⟨g, a, none⟩ = false) (ds := [17]) #[false, false, false, false, false, false, false, false, false, false, false, false, false, false, false, false, false, false] (by kernel_rfl) rfl rfl ⟨s0, s1, s2⟩ (fun hHeld => ?_)
  refine with_tabW ref_mix_r0.tab ref_mix_r0.bits (fun HT_ HW_ => ?_)
  refine pure_ (i := 0) (N := some 14) (v := ?_) (a' := ?_) ref_mix_r0.l0 rfl rfl (any_of HT_.out (by kernel_rfl)) (fun _ _ _ h => h) (Or.inl ⟨by rfl, ?_⟩) ?_ ?_
  rotate_left
  · intro w'
    go_simp
    with_reducible rfl
  rotate_left
  · simp only [Act.put, List.setIfInBounds_toArray, List.set_cons_zero, List.set_cons_succ, i64_w, i32_w]
    rfl
  refine pure_ (i := 1) (N := some 15) (v := ?_) (a' := ?_) ref_mix_r0.l1 rfl rfl (any_of HT_.out (by kernel_rfl)) (fun _ _ _ h => h) (Or.inl ⟨by rfl, ?_⟩) ?_ ?_
  rotate_left
  · intro w'
    go_simp
    with_reducible rfl
  rotate_left
  · simp only [Act.put, List.setIfInBounds_toArray, List.set_cons_zero, List.set_cons_succ, i64_w, i32_w]
    rfl
  refine pure_ (i := 2) (N := some 16) (v := ?_) (a' := ?_) ref_mix_r0.l2 rfl rfl (any_of HT_.out (by kernel_rfl)) (fun _ _ _ h => h) (Or.inl ⟨by rfl, ?_⟩) ?_ ?_
  rotate_left
  · intro w'
    go_simp
    with_reducible rfl
  rotate_left
  · simp only [Act.put, List.setIfInBounds_toArray, List.set_cons_zero, List.set_cons_succ, i64_w, i32_w]
    rfl
  refine pure_ (i := 3) (N := some 17) (v := ?_) (a' := ?_) ref_mix_r0.l3 rfl rfl (any_of HT_.out (by kernel_rfl)) (fun _ _ _ h => h) (Or.inl ⟨by rfl, ?_⟩) ?_ ?_
  rotate_left
  · intro w'
    go_simp
    with_reducible rfl
  rotate_left
  · simp only [Act.put, List.setIfInBounds_toArray, List.set_cons_zero, List.set_cons_succ, i64_w, i32_w]
    rfl
  refine pure_ (i := 4) (N := some 18) (v := ?_) (a' := ?_) ref_mix_r0.l4 rfl rfl (any_of HT_.out (by kernel_rfl)) (fun _ _ _ h => h) (Or.inl ⟨by rfl, ?_⟩) ?_ ?_
  rotate_left
  · intro w'
    go_simp
    with_reducible rfl
  rotate_left
  · simp only [Act.put, List.setIfInBounds_toArray, List.set_cons_zero, List.set_cons_succ, i64_w, i32_w]
    rfl
  refine pure_ (i := 5) (N := some 19) (v := ?_) (a' := ?_) ref_mix_r0.l5 rfl rfl (any_of HT_.out (by kernel_rfl)) (fun _ _ _ h => h) (Or.inl ⟨by rfl, ?_⟩) ?_ ?_
  rotate_left
  · intro w'
    go_simp
    with_reducible rfl
  rotate_left
  · simp only [Act.put, List.setIfInBounds_toArray, List.set_cons_zero, List.set_cons_succ, i64_w, i32_w]
    rfl
  refine take_ (i := 6) (N := some 20) (v := ?_) (a' := ?_) ref_mix_r0.l6 rfl rfl (take_ofW HT_.out HW_.out (by kernel_rfl)) (fun _ _ _ h => h) (Or.inl ⟨by rfl, ?_⟩) hHeld ?_ ?_
  rotate_left
  · intro w' hs_
    obtain ⟨s0, s1, s2⟩ := hs_
    go_simp
    with_reducible rfl
  rotate_left
  · simp only [Act.put, List.setIfInBounds_toArray, List.set_cons_zero, List.set_cons_succ, i64_w, i32_w]
    rfl
  refine pure_ (i := 7) (N := some 21) (v := ?_) (a' := ?_) ref_mix_r0.l7 rfl rfl (any_of HT_.out (by kernel_rfl)) (fun _ _ _ h => h) (Or.inl ⟨by rfl, ?_⟩) ?_ ?_
  rotate_left
  · intro w'
    go_simp
    with_reducible rfl
  rotate_left
  · simp only [Act.put, List.setIfInBounds_toArray, List.set_cons_zero, List.set_cons_succ, i64_w, i32_w]
    rfl
  refine pure_ (i := 8) (N := some 22) (v := ?_) (a' := ?_) ref_mix_r0.l8 rfl rfl (any_of HT_.out (by kernel_rfl)) (fun _ _ _ h => h) (Or.inl ⟨by rfl, ?_⟩) ?_ ?_
  rotate_left
  · intro w'
    go_simp
    with_reducible rfl
  rotate_left
  · simp only [Act.put, List.setIfInBounds_toArray, List.set_cons_zero, List.set_cons_succ, i64_w, i32_w]
    rfl
  refine pure_ (i := 9) (N := some 23) (v := ?_) (a' := ?_) ref_mix_r0.l9 rfl rfl (any_of HT_.out (by kernel_rfl)) (fun _ _ _ h => h) (Or.inl ⟨by rfl, ?_⟩) ?_ ?_
  rotate_left
  · intro w'
    go_simp
    with_reducible rfl
  rotate_left
  · simp only [Act.put, List.setIfInBounds_toArray, List.set_cons_zero, List.set_cons_succ, i64_w, i32_w]
    rfl
  refine pure_ (i := 10) (N := some 24) (v := ?_) (a' := ?_) ref_mix_r0.l10 rfl rfl (any_of HT_.out (by kernel_rfl)) (fun _ _ _ h => h) (Or.inl ⟨by rfl, ?_⟩) ?_ ?_
  rotate_left
  · intro w'
    go_simp
    with_reducible rfl
  rotate_left
  · simp only [Act.put, List.setIfInBounds_toArray, List.set_cons_zero, List.set_cons_succ, i64_w, i32_w]
    rfl
  refine take_ (i := 11) (N := some 25) (v := ?_) (a' := ?_) ref_mix_r0.l11 rfl rfl (take_ofW HT_.out HW_.out (by kernel_rfl)) (fun _ _ _ h => h) (Or.inl ⟨by rfl, ?_⟩) hHeld ?_ ?_
  rotate_left
  · intro w' hs_
    obtain ⟨s0, s1, s2⟩ := hs_
    go_simp
    with_reducible rfl
  rotate_left
  · simp only [Act.put, List.setIfInBounds_toArray, List.set_cons_zero, List.set_cons_succ, i64_w, i32_w]
    rfl
  refine pure_ (i := 12) (N := some 26) (v := ?_) (a' := ?_) ref_mix_r0.l12 rfl rfl (any_of HT_.out (by kernel_rfl)) (fun _ _ _ h => h) (Or.inl ⟨by rfl, ?_⟩) ?_ ?_
  rotate_left
  · intro w'
    go_simp
    with_reducible rfl
  rotate_left
  · simp only [Act.put, List.setIfInBounds_toArray, List.set_cons_zero, List.set_cons_succ, i64_w, i32_w]
    rfl
  refine pure_ (i := 13) (N := some 27) (v := ?_) (a' := ?_) ref_mix_r0.l13 rfl rfl (any_of HT_.out (by kernel_rfl)) (fun _ _ _ h => h) (Or.inl ⟨by rfl, ?_⟩) ?_ ?_
  rotate_left
  · intro w'
    go_simp
    with_reducible rfl
  rotate_left
  · simp only [Act.put, List.setIfInBounds_toArray, List.set_cons_zero, List.set_cons_succ, i64_w, i32_w]
    rfl
  refine pure_ (i := 14) (N := some 28) (v := ?_) (a' := ?_) ref_mix_r0.l14 rfl rfl (any_of HT_.out (by kernel_rfl)) (fun _ _ _ h => h) (Or.inl ⟨by rfl, ?_⟩) ?_ ?_
  rotate_left
  · intro w'
    go_simp
    with_reducible rfl
  rotate_left
  · simp only [Act.put, List.setIfInBounds_toArray, List.set_cons_zero, List.set_cons_succ, i64_w, i32_w]
    rfl
  refine pure_ (i := 15) (N := some 29) (v := ?_) (a' := ?_) ref_mix_r0.l15 rfl rfl (any_of HT_.out (by kernel_rfl)) (fun _ _ _ h => h) (Or.inl ⟨by rfl, ?_⟩) ?_ ?_
  rotate_left
  · intro w'
    go_simp
    with_reducible rfl
  rotate_left
  · simp only [Act.put, List.setIfInBounds_toArray, List.set_cons_zero, List.set_cons_succ, i64_w, i32_w]
    rfl
  refine pure_ (i := 16) (N := some 30) (v := ?_) (a' := ?_) ref_mix_r0.l16 rfl rfl (any_of HT_.out (by kernel_rfl)) (fun _ _ _ h => h) (Or.inl ⟨by rfl, ?_⟩) ?_ ?_
  rotate_left
  · intro w'
    go_simp
    with_reducible rfl
  rotate_left
  · simp only [Act.put, List.setIfInBounds_toArray, List.set_cons_zero, List.set_cons_succ, i64_w, i32_w]
    rfl
  refine last_ (i := 17) (N := none) ref_mix_r0.l17 rfl rfl (one_of HT_.out (by kernel_rfl)) (by decide) (fun K hK => ?_)
  clear hHeld
  refine skip_ (w1 := World.setCell w.drew ⟨g, a, none⟩ (.int .u64 (wr (wr (v_p0 + v_q0) + x)))) (by rfl) rfl ?_ ?_
  · go_simp
  refine hK.out _ _ ?_
  clear hK K
  refine done_ (done_of HT_.out (by kernel_rfl)) ?_
  clear s0 s1 s2
  clear HT_ HW_
  obtain ⟨V1, hV1⟩ : ∃ V', V' = ref_mix.step 0 V0 a b c d x y := ⟨_, rfl⟩
  have hL1 : V1.length = 16 := by rw [hV1, ref_mix.step_length]; exact hL0
  have n0_ := HA.out.drew.set a (by omega) (wr (wr (v_p0 + v_q0) + x))
  rw [show V0.set a (wr (wr (v_p0 + v_q0) + x)) = V1 by rw [hV1, Hv_p.out, Hv_q.out]; rfl] at n0_
  have n1_ := grown_set (grown_drew HG.out) a (.int .u64 (wr (wr (v_p0 + v_q0) + x)))
  generalize World.setCell _ _ _ = w1 at n0_ n1_ ⊢
  clear HA HG
  have HA := Aside0.mk n0_
  have HG := Aside0.mk n1_
  clear n0_ n1_ Hv_p Hv_q
  have hA1 := HA.out
  have s0 := hA1.cell d (by omega)
  have s1 := hA1.cell a (by omega)
  have s2 := hA1.frozen d (by omega)
  clear hA1
  obtain ⟨v_p1, hv_p⟩ : ∃ v, v = V1.getD d 0 := ⟨_, rfl⟩
  obtain ⟨v_q1, hv_q⟩ : ∃ v, v = V1.getD a 0 := ⟨_, rfl⟩
  rw [← hv_p] at s0
  rw [← hv_q] at s1
  have Hv_p := Aside0.mk hv_p
  have Hv_q := Aside0.mk hv_q
  clear hv_p hv_q
  go_upto_region 1 with (fail)
  refine start_ (n := 17) (S := fun w' => w'.cell? ⟨g, d, none⟩ = some (.int .u64 (v_p1)) ∧ w'.cell? ⟨g, a, none⟩ = some (.int .u64 (v_q1)) ∧ w'.frozen? ⟨g, d, none⟩ = false) (ds := [16]) #[false, false, false, false, false, false, false, false, false, false, false, false, false, false, false, false, false] (by kernel_rfl) rfl rfl ⟨s0, s1, s2⟩ (fun hHeld => ?_)
  refine with_tabW ref_mix_r1.tab ref_mix_r1.bits (fun HT_ HW_ => ?_)
  refine pure_ (i := 0) (N := some 31) (v := ?_) (a' := ?_) ref_mix_r1.l0 rfl rfl (any_of HT_.out (by kernel_rfl)) (fun _ _ _ h => h) (Or.inl ⟨by rfl, ?_⟩) ?_ ?_
  rotate_left
  · intro w'
    go_simp
    with_reducible rfl
  rotate_left
  · simp only [Act.put, List.setIfInBounds_toArray, List.set_cons_zero, List.set_cons_succ, i64_w, i32_w]
    rfl
  refine pure_ (i := 1) (N := some 32) (v := ?_) (a' := ?_) ref_mix_r1.l1 rfl rfl (any_of HT_.out (by kernel_rfl)) (fun _ _ _ h => h) (Or.inl ⟨by rfl, ?_⟩) ?_ ?_
  rotate_left
  · intro w'
    go_simp
    with_reducible rfl
  rotate_left
  · simp only [Act.put, List.setIfInBounds_toArray, List.set_cons_zero, List.set_cons_succ, i64_w, i32_w]
    rfl
  refine pure_ (i := 2) (N := some 33) (v := ?_) (a' := ?_) ref_mix_r1.l2 rfl rfl (any_of HT_.out (by kernel_rfl)) (fun _ _ _ h => h) (Or.inl ⟨by rfl, ?_⟩) ?_ ?_
  rotate_left
  · intro w'
    go_simp
    with_reducible rfl
  rotate_left
  · simp only [Act.put, List.setIfInBounds_toArray, List.set_cons_zero, List.set_cons_succ, i64_w, i32_w]
    rfl
  refine pure_ (i := 3) (N := some 34) (v := ?_) (a' := ?_) ref_mix_r1.l3 rfl rfl (any_of HT_.out (by kernel_rfl)) (fun _ _ _ h => h) (Or.inl ⟨by rfl, ?_⟩) ?_ ?_
  rotate_left
  · intro w'
    go_simp
    with_reducible rfl
  rotate_left
  · simp only [Act.put, List.setIfInBounds_toArray, List.set_cons_zero, List.set_cons_succ, i64_w, i32_w]
    rfl
  refine pure_ (i := 4) (N := some 35) (v := ?_) (a' := ?_) ref_mix_r1.l4 rfl rfl (any_of HT_.out (by kernel_rfl)) (fun _ _ _ h => h) (Or.inl ⟨by rfl, ?_⟩) ?_ ?_
  rotate_left
  · intro w'
    go_simp
    with_reducible rfl
  rotate_left
  · simp only [Act.put, List.setIfInBounds_toArray, List.set_cons_zero, List.set_cons_succ, i64_w, i32_w]
    rfl
  refine pure_ (i := 5) (N := some 36) (v := ?_) (a' := ?_) ref_mix_r1.l5 rfl rfl (any_of HT_.out (by kernel_rfl)) (fun _ _ _ h => h) (Or.inl ⟨by rfl, ?_⟩) ?_ ?_
  rotate_left
  · intro w'
    go_simp
    with_reducible rfl
  rotate_left
  · simp only [Act.put, List.setIfInBounds_toArray, List.set_cons_zero, List.set_cons_succ, i64_w, i32_w]
    rfl
  refine take_ (i := 6) (N := some 37) (v := ?_) (a' := ?_) ref_mix_r1.l6 rfl rfl (take_ofW HT_.out HW_.out (by kernel_rfl)) (fun _ _ _ h => h) (Or.inl ⟨by rfl, ?_⟩) hHeld ?_ ?_
  rotate_left
  · intro w' hs_
    obtain ⟨s0, s1, s2⟩ := hs_
    go_simp
    with_reducible rfl
  rotate_left
  · simp only [Act.put, List.setIfInBounds_toArray, List.set_cons_zero, List.set_cons_succ, i64_w, i32_w]
    rfl
  refine pure_ (i := 7) (N := some 38) (v := ?_) (a' := ?_) ref_mix_r1.l7 rfl rfl (any_of HT_.out (by kernel_rfl)) (fun _ _ _ h => h) (Or.inl ⟨by rfl, ?_⟩) ?_ ?_
  rotate_left
  · intro w'
    go_simp
    with_reducible rfl
  rotate_left
  · simp only [Act.put, List.setIfInBounds_toArray, List.set_cons_zero, List.set_cons_succ, i64_w, i32_w]
    rfl
  refine pure_ (i := 8) (N := some 39) (v := ?_) (a' := ?_) ref_mix_r1.l8 rfl rfl (any_of HT_.out (by kernel_rfl)) (fun _ _ _ h => h) (Or.inl ⟨by rfl, ?_⟩) ?_ ?_
  rotate_left
  · intro w'
    go_simp
    with_reducible rfl
  rotate_left
  · simp only [Act.put, List.setIfInBounds_toArray, List.set_cons_zero, List.set_cons_succ, i64_w, i32_w]
    rfl
  refine pure_ (i := 9) (N := some 40) (v := ?_) (a' := ?_) ref_mix_r1.l9 rfl rfl (any_of HT_.out (by kernel_rfl)) (fun _ _ _ h => h) (Or.inl ⟨by rfl, ?_⟩) ?_ ?_
  rotate_left
  · intro w'
    go_simp
    with_reducible rfl
  rotate_left
  · simp only [Act.put, List.setIfInBounds_toArray, List.set_cons_zero, List.set_cons_succ, i64_w, i32_w]
    rfl
  refine pure_ (i := 10) (N := some 41) (v := ?_) (a' := ?_) ref_mix_r1.l10 rfl rfl (any_of HT_.out (by kernel_rfl)) (fun _ _ _ h => h) (Or.inl ⟨by rfl, ?_⟩) ?_ ?_
  rotate_left
  · intro w'
    go_simp
    with_reducible rfl
  rotate_left
  · simp only [Act.put, List.setIfInBounds_toArray, List.set_cons_zero, List.set_cons_succ, i64_w, i32_w]
    rfl
  refine take_ (i := 11) (N := some 42) (v := ?_) (a' := ?_) ref_mix_r1.l11 rfl rfl (take_ofW HT_.out HW_.out (by kernel_rfl)) (fun _ _ _ h => h) (Or.inl ⟨by rfl, ?_⟩) hHeld ?_ ?_
  rotate_left
  · intro w' hs_
    obtain ⟨s0, s1, s2⟩ := hs_
    go_simp
    with_reducible rfl
  rotate_left
  · simp only [Act.put, List.setIfInBounds_toArray, List.set_cons_zero, List.set_cons_succ, i64_w, i32_w]
    rfl
  refine pure_ (i := 12) (N := some 43) (v := ?_) (a' := ?_) ref_mix_r1.l12 rfl rfl (any_of HT_.out (by kernel_rfl)) (fun _ _ _ h => h) (Or.inl ⟨by rfl, ?_⟩) ?_ ?_
  rotate_left
  · intro w'
    go_simp
    with_reducible rfl
  rotate_left
  · simp only [Act.put, List.setIfInBounds_toArray, List.set_cons_zero, List.set_cons_succ, i64_w, i32_w]
    rfl
  refine pure_ (i := 14) (N := some 45) (v := ?_) (a' := ?_) ref_mix_r1.l13 rfl rfl (any_of HT_.out (by kernel_rfl)) (fun _ _ _ h => h) (Or.inl ⟨by rfl, ?_⟩) ?_ ?_
  rotate_left
  · intro w'
    go_simp
    with_reducible rfl
  rotate_left
  · simp only [Act.put, List.setIfInBounds_toArray, List.set_cons_zero, List.set_cons_succ, i64_w, i32_w]
    rfl
  refine one_ (i := 13) (N := some 44) ref_mix_r1.l14 rfl rfl (one_of HT_.out (by kernel_rfl)) (by decide) (fun K hK => ?_)
  refine goes_ Tryd.func37 (by kernel_rfl) rfl #[.int .u64 (Go.bits .xor .u64 v_p1 v_q1), .int .u64 32] (by rfl) rfl rfl (by (try simp only [List.map_toArray, List.map_cons, List.map_nil]); first | done | rfl) ?_
  refine (althingref2_turned.calls _ _ _ _ (rotR_some32 _)).mono ?_
  rintro e w9 ⟨rfl, ⟨m_, rfl⟩⟩
  refine ⟨_, rfl, ?_⟩
  refine hK.out _ _ hHeld (fun hHeld => ?_)
  clear hK K
  refine norm_ (a' := ?_) ?_ ?_
  rotate_left
  · show Act.put _ (some 44) _ = _
    simp only [Act.put, List.setIfInBounds_toArray, List.set_cons_zero, List.set_cons_succ, i64_w, i32_w]
    rfl
  refine pure_ (i := 15) (N := some 46) (v := ?_) (a' := ?_) ref_mix_r1.l15 rfl rfl (any_of HT_.out (by kernel_rfl)) (fun _ _ _ h => h) (Or.inl ⟨by rfl, ?_⟩) ?_ ?_
  rotate_left
  · intro w'
    go_simp
    with_reducible rfl
  rotate_left
  · simp only [Act.put, List.setIfInBounds_toArray, List.set_cons_zero, List.set_cons_succ, i64_w, i32_w]
    rfl
  refine last_ (i := 16) (N := none) ref_mix_r1.l16 rfl rfl (one_of HT_.out (by kernel_rfl)) (by decide) (fun K hK => ?_)
  clear hHeld
  refine skip_ (w1 := World.setCell (w1.drew.drewN m_) ⟨g, d, none⟩ (.int .u64 (rotR 32 (Go.bits .xor .u64 v_p1 v_q1)))) (by rfl) rfl ?_ ?_
  · go_simp
  refine hK.out _ _ ?_
  clear hK K
  refine done_ (done_of HT_.out (by kernel_rfl)) ?_
  clear s0 s1 s2
  clear HT_ HW_
  obtain ⟨V2, hV2⟩ : ∃ V', V' = ref_mix.step 1 V1 a b c d x y := ⟨_, rfl⟩
  have hL2 : V2.length = 16 := by rw [hV2, ref_mix.step_length]; exact hL1
  have n0_ := (HA.out.drew.drewN m_).set d (by omega) (rotR 32 (Go.bits .xor .u64 v_p1 v_q1))
  rw [show V1.set d (rotR 32 (Go.bits .xor .u64 v_p1 v_q1)) = V2 by rw [hV2, Hv_p.out, Hv_q.out]; rfl] at n0_
  have n1_ := grown_set (grown_drewN (grown_drew HG.out) m_) d (.int .u64 (rotR 32 (Go.bits .xor .u64 v_p1 v_q1)))
  generalize World.setCell _ _ _ = w2 at n0_ n1_ ⊢
  clear HA HG
  have HA := Aside0.mk n0_
  have HG := Aside0.mk n1_
  clear n0_ n1_ Hv_p Hv_q
  have hA2 := HA.out
  have s0 := hA2.cell c (by omega)
  have s1 := hA2.cell d (by omega)
  have s2 := hA2.frozen c (by omega)
  clear hA2
  obtain ⟨v_p2, hv_p⟩ : ∃ v, v = V2.getD c 0 := ⟨_, rfl⟩
  obtain ⟨v_q2, hv_q⟩ : ∃ v, v = V2.getD d 0 := ⟨_, rfl⟩
  rw [← hv_p] at s0
  rw [← hv_q] at s1
  have Hv_p := Aside0.mk hv_p
  have Hv_q := Aside0.mk hv_q
  clear hv_p hv_q
  go_upto_region 2 with (fail)
  refine start_ (n := 16) (S := fun w' => w'.cell? ⟨g, c, none⟩ = some (.int .u64 (v_p2)) ∧ w'.cell? ⟨g, d, none⟩ = some (.int .u64 (v_q2)) ∧ w'.frozen? ⟨g, c, none⟩ = false) (ds := [15]) #[false, false, false, false, false, false, false, false, false, false, false, false, false, false, false, false] (by kernel_rfl) rfl rfl ⟨s0, s1, s2⟩ (fun hHeld => ?_)
  refine with_tabW ref_mix_r2.tab ref_mix_r2.bits (fun HT_ HW_ => ?_)
  refine pure_ (i := 0) (N := some 47) (v := ?_) (a' := ?_) ref_mix_r2.l0 rfl rfl (any_of HT_.out (by kernel_rfl)) (fun _ _ _ h => h) (Or.inl ⟨by rfl, ?_⟩) ?_ ?_
  rotate_left
  · intro w'
    go_simp
    with_reducible rfl
  rotate_left
  · simp only [Act.put, List.setIfInBounds_toArray, List.set_cons_zero, List.set_cons_succ, i64_w, i32_w]
    rfl
  refine pure_ (i := 1) (N := some 48) (v := ?_) (a' := ?_) ref_mix_r2.l1 rfl rfl (any_of HT_.out (by kernel_rfl)) (fun _ _ _ h => h) (Or.inl ⟨by rfl, ?_⟩) ?_ ?_
  rotate_left
  · intro w'
    go_simp
    with_reducible rfl
  rotate_left
  · simp only [Act.put, List.setIfInBounds_toArray, List.set_cons_zero, List.set_cons_succ, i64_w, i32_w]
    rfl
  refine pure_ (i := 2) (N := some 49) (v := ?_) (a' := ?_) ref_mix_r2.l2 rfl rfl (any_of HT_.out (by kernel_rfl)) (fun _ _ _ h => h) (Or.inl ⟨by rfl, ?_⟩) ?_ ?_
  rotate_left
  · intro w'
    go_simp
    with_reducible rfl
  rotate_left
  · simp only [Act.put, List.setIfInBounds_toArray, List.set_cons_zero, List.set_cons_succ, i64_w, i32_w]
    rfl
  refine pure_ (i := 3) (N := some 50) (v := ?_) (a' := ?_) ref_mix_r2.l3 rfl rfl (any_of HT_.out (by kernel_rfl)) (fun _ _ _ h => h) (Or.inl ⟨by rfl, ?_⟩) ?_ ?_
  rotate_left
  · intro w'
    go_simp
    with_reducible rfl
  rotate_left
  · simp only [Act.put, List.setIfInBounds_toArray, List.set_cons_zero, List.set_cons_succ, i64_w, i32_w]
    rfl
  refine pure_ (i := 4) (N := some 51) (v := ?_) (a' := ?_) ref_mix_r2.l4 rfl rfl (any_of HT_.out (by kernel_rfl)) (fun _ _ _ h => h) (Or.inl ⟨by rfl, ?_⟩) ?_ ?_
  rotate_left
  · intro w'
    go_simp
    with_reducible rfl
  rotate_left
  · simp only [Act.put, List.setIfInBounds_toArray, List.set_cons_zero, List.set_cons_succ, i64_w, i32_w]
    rfl
  refine pure_ (i := 5) (N := some 52) (v := ?_) (a' := ?_) ref_mix_r2.l5 rfl rfl (any_of HT_.out (by kernel_rfl)) (fun _ _ _ h => h) (Or.inl ⟨by rfl, ?_⟩) ?_ ?_
  rotate_left
  · intro w'
    go_simp
    with_reducible rfl
  rotate_left
  · simp only [Act.put, List.setIfInBounds_toArray, List.set_cons_zero, List.set_cons_succ, i64_w, i32_w]
    rfl
  refine take_ (i := 6) (N := some 53) (v := ?_) (a' := ?_) ref_mix_r2.l6 rfl rfl (take_ofW HT_.out HW_.out (by kernel_rfl)) (fun _ _ _ h => h) (Or.inl ⟨by rfl, ?_⟩) hHeld ?_ ?_
  rotate_left
  · intro w' hs_
    obtain ⟨s0, s1, s2⟩ := hs_
    go_simp
    with_reducible rfl
  rotate_left
  · simp only [Act.put, List.setIfInBounds_toArray, List.set_cons_zero, List.set_cons_succ, i64_w, i32_w]
    rfl
  refine pure_ (i := 7) (N := some 54) (v := ?_) (a' := ?_) ref_mix_r2.l7 rfl rfl (any_of HT_.out (by kernel_rfl)) (fun _ _ _ h => h) (Or.inl ⟨by rfl, ?_⟩) ?_ ?_
  rotate_left
  · intro w'
    go_simp
    with_reducible rfl
  rotate_left
  · simp only [Act.put, List.setIfInBounds_toArray, List.set_cons_zero, List.set_cons_succ, i64_w, i32_w]
    rfl
  refine pure_ (i := 8) (N := some 55) (v := ?_) (a' := ?_) ref_mix_r2.l8 rfl rfl (any_of HT_.out (by kernel_rfl)) (fun _ _ _ h => h) (Or.inl ⟨by rfl, ?_⟩) ?_ ?_
  rotate_left
  · intro w'
    go_simp
    with_reducible rfl
  rotate_left
  · simp only [Act.put, List.setIfInBounds_toArray, List.set_cons_zero, List.set_cons_succ, i64_w, i32_w]
    rfl
  refine pure_ (i := 9) (N := some 56) (v := ?_) (a' := ?_) ref_mix_r2.l9 rfl rfl (any_of HT_.out (by kernel_rfl)) (fun _ _ _ h => h) (Or.inl ⟨by rfl, ?_⟩) ?_ ?_
  rotate_left
  · intro w'
    go_simp
    with_reducible rfl
  rotate_left
  · simp only [Act.put, List.setIfInBounds_toArray, List.set_cons_zero, List.set_cons_succ, i64_w, i32_w]
    rfl
  refine pure_ (i := 10) (N := some 57) (v := ?_) (a' := ?_) ref_mix_r2.l10 rfl rfl (any_of HT_.out (by kernel_rfl)) (fun _ _ _ h => h) (Or.inl ⟨by rfl, ?_⟩) ?_ ?_
  rotate_left
  · intro w'
    go_simp
    with_reducible rfl
  rotate_left
  · simp only [Act.put, List.setIfInBounds_toArray, List.set_cons_zero, List.set_cons_succ, i64_w, i32_w]
    rfl
  refine take_ (i := 11) (N := some 58) (v := ?_) (a' := ?_) ref_mix_r2.l11 rfl rfl (take_ofW HT_.out HW_.out (by kernel_rfl)) (fun _ _ _ h => h) (Or.inl ⟨by rfl, ?_⟩) hHeld ?_ ?_
  rotate_left
  · intro w' hs_
    obtain ⟨s0, s1, s2⟩ := hs_
    go_simp
    with_reducible rfl
  rotate_left
  · simp only [Act.put, List.setIfInBounds_toArray, List.set_cons_zero, List.set_cons_succ, i64_w, i32_w]
    rfl
  refine pure_ (i := 12) (N := some 59) (v := ?_) (a' := ?_) ref_mix_r2.l12 rfl rfl (any_of HT_.out (by kernel_rfl)) (fun _ _ _ h => h) (Or.inl ⟨by rfl, ?_⟩) ?_ ?_
  rotate_left
  · intro w'
    go_simp
    with_reducible rfl
  rotate_left
  · simp only [Act.put, List.setIfInBounds_toArray, List.set_cons_zero, List.set_cons_succ, i64_w, i32_w]
    rfl
  refine pure_ (i := 13) (N := some 60) (v := ?_) (a' := ?_) ref_mix_r2.l13 rfl rfl (any_of HT_.out (by kernel_rfl)) (fun _ _ _ h => h) (Or.inl ⟨by rfl, ?_⟩) ?_ ?_
  rotate_left
  · intro w'
    go_simp
    with_reducible rfl
  rotate_left
  · simp only [Act.put, List.setIfInBounds_toArray, List.set_cons_zero, List.set_cons_succ, i64_w, i32_w]
    rfl
  refine pure_ (i := 14) (N := some 61) (v := ?_) (a' := ?_) ref_mix_r2.l14 rfl rfl (any_of HT_.out (by kernel_rfl)) (fun _ _ _ h => h) (Or.inl ⟨by rfl, ?_⟩) ?_ ?_
  rotate_left
  · intro w'
    go_simp
    with_reducible rfl
  rotate_left
  · simp only [Act.put, List.setIfInBounds_toArray, List.set_cons_zero, List.set_cons_succ, i64_w, i32_w]
    rfl
  refine last_ (i := 15) (N := none) ref_mix_r2.l15 rfl rfl (one_of HT_.out (by kernel_rfl)) (by decide) (fun K hK => ?_)
  clear hHeld
  refine skip_ (w1 := World.setCell w2.drew ⟨g, c, none⟩ (.int .u64 (wr (v_p2 + v_q2)))) (by rfl) rfl ?_ ?_
  · go_simp
  refine hK.out _ _ ?_
  clear hK K
  refine done_ (done_of HT_.out (by kernel_rfl)) ?_
  clear s0 s1 s2
  clear HT_ HW_
  obtain ⟨V3, hV3⟩ : ∃ V', V' = ref_mix.step 2 V2 a b c d x y := ⟨_, rfl⟩
  have hL3 : V3.length = 16 := by rw [hV3, ref_mix.step_length]; exact hL2
  have n0_ := HA.out.drew.set c (by omega) (wr (v_p2 + v_q2))
  rw [show V2.set c (wr (v_p2 + v_q2)) = V3 by rw [hV3, Hv_p.out, Hv_q.out]; rfl] at n0_
  have n1_ := grown_set (grown_drew HG.out) c (.int .u64 (wr (v_p2 + v_q2)))
  generalize World.setCell _ _ _ = w3 at n0_ n1_ ⊢
  clear HA HG
  have HA := Aside0.mk n0_
  have HG := Aside0.mk n1_
  clear n0_ n1_ Hv_p Hv_q
  have hA3 := HA.out
  have s0 := hA3.cell b (by omega)
  have s1 := hA3.cell c (by omega)
  have s2 := hA3.frozen b (by omega)
  clear hA3
  obtain ⟨v_p3, hv_p⟩ : ∃ v, v = V3.getD b 0 := ⟨_, rfl⟩
  obtain ⟨v_q3, hv_q⟩ : ∃ v, v = V3.getD c 0 := ⟨_, rfl⟩
  rw [← hv_p] at s0
  rw [← hv_q] at s1
  have Hv_p := Aside0.mk hv_p
  have Hv_q := Aside0.mk hv_q
  clear hv_p hv_q
  go_upto_region 3 with (fail)
  refine start_ (n := 17) (S := fun w' => w'.cell? ⟨g, b, none⟩ = some (.int .u64 (v_p3)) ∧ w'.cell? ⟨g, c, none⟩ = some (.int .u64 (v_q3)) ∧ w'.frozen? ⟨g, b, none⟩ = false) (ds := [16]) #[false, false, false, false, false, false, false, false, false, false, false, false, false, false, false, false, false] (by kernel_rfl) rfl rfl ⟨s0, s1, s2⟩ (fun hHeld => ?_)
  refine with_tabW ref_mix_r3.tab ref_mix_r3.bits (fun HT_ HW_ => ?_)
  refine pure_ (i := 0) (N := some 62) (v := ?_) (a' := ?_) ref_mix_r3.l0 rfl rfl (any_of HT_.out (by kernel_rfl)) (fun _ _ _ h => h) (Or.inl ⟨by rfl, ?_⟩) ?_ ?_
  rotate_left
  · intro w'
    go_simp
    with_reducible rfl
  rotate_left
  · simp only [Act.put, List.setIfInBounds_toArray, List.set_cons_zero, List.set_cons_succ, i64_w, i32_w]
    rfl
  refine pure_ (i := 1) (N := some 63) (v := ?_) (a' := ?_) ref_mix_r3.l1 rfl rfl (any_of HT_.out (by kernel_rfl)) (fun _ _ _ h => h) (Or.inl ⟨by rfl, ?_⟩) ?_ ?_
  rotate_left
  · intro w'
    go_simp
    with_reducible rfl
  rotate_left
  · simp only [Act.put, List.setIfInBounds_toArray, List.set_cons_zero, List.set_cons_succ, i64_w, i32_w]
    rfl
  refine pure_ (i := 2) (N := some 64) (v := ?_) (a' := ?_) ref_mix_r3.l2 rfl rfl (any_of HT_.out (by kernel_rfl)) (fun _ _ _ h => h) (Or.inl ⟨by rfl, ?_⟩) ?_ ?_
  rotate_left
  · intro w'
    go_simp
    with_reducible rfl
  rotate_left
  · simp only [Act.put, List.setIfInBounds_toArray, List.set_cons_zero, List.set_cons_succ, i64_w, i32_w]
    rfl
  refine pure_ (i := 3) (N := some 65) (v := ?_) (a' := ?_) ref_mix_r3.l3 rfl rfl (any_of HT_.out (by kernel_rfl)) (fun _ _ _ h => h) (Or.inl ⟨by rfl, ?_⟩) ?_ ?_
  rotate_left
  · intro w'
    go_simp
    with_reducible rfl
  rotate_left
  · simp only [Act.put, List.setIfInBounds_toArray, List.set_cons_zero, List.set_cons_succ, i64_w, i32_w]
    rfl
  refine pure_ (i := 4) (N := some 66) (v := ?_) (a' := ?_) ref_mix_r3.l4 rfl rfl (any_of HT_.out (by kernel_rfl)) (fun _ _ _ h => h) (Or.inl ⟨by rfl, ?_⟩) ?_ ?_
  rotate_left
  · intro w'
    go_simp
    with_reducible rfl
  rotate_left
  · simp only [Act.put, List.setIfInBounds_toArray, List.set_cons_zero, List.set_cons_succ, i64_w, i32_w]
    rfl
  refine pure_ (i := 5) (N := some 67) (v := ?_) (a' := ?_) ref_mix_r3.l5 rfl rfl (any_of HT_.out (by kernel_rfl)) (fun _ _ _ h => h) (Or.inl ⟨by rfl, ?_⟩) ?_ ?_
  rotate_left
  · intro w'
    go_simp
    with_reducible rfl
  rotate_left
  · simp only [Act.put, List.setIfInBounds_toArray, List.set_cons_zero, List.set_cons_succ, i64_w, i32_w]
    rfl
  refine take_ (i := 6) (N := some 68) (v := ?_) (a' := ?_) ref_mix_r3.l6 rfl rfl (take_ofW HT_.out HW_.out (by kernel_rfl)) (fun _ _ _ h => h) (Or.inl ⟨by rfl, ?_⟩) hHeld ?_ ?_
  rotate_left
  · intro w' hs_
    obtain ⟨s0, s1, s2⟩ := hs_
    go_simp
    with_reducible rfl
  rotate_left
  · simp only [Act.put, List.setIfInBounds_toArray, List.set_cons_zero, List.set_cons_succ, i64_w, i32_w]
    rfl
  refine pure_ (i := 7) (N := some 69) (v := ?_) (a' := ?_) ref_mix_r3.l7 rfl rfl (any_of HT_.out (by kernel_rfl)) (fun _ _ _ h => h) (Or.inl ⟨by rfl, ?_⟩) ?_ ?_
  rotate_left
  · intro w'
    go_simp
    with_reducible rfl
  rotate_left
  · simp only [Act.put, List.setIfInBounds_toArray, List.set_cons_zero, List.set_cons_succ, i64_w, i32_w]
    rfl
  refine pure_ (i := 8) (N := some 70) (v := ?_) (a' := ?_) ref_mix_r3.l8 rfl rfl (any_of HT_.out (by kernel_rfl)) (fun _ _ _ h => h) (Or.inl ⟨by rfl, ?_⟩) ?_ ?_
  rotate_left
  · intro w'
    go_simp
    with_reducible rfl
  rotate_left
  · simp only [Act.put, List.setIfInBounds_toArray, List.set_cons_zero, List.set_cons_succ, i64_w, i32_w]
    rfl
  refine pure_ (i := 9) (N := some 71) (v := ?_) (a' := ?_) ref_mix_r3.l9 rfl rfl (any_of HT_.out (by kernel_rfl)) (fun _ _ _ h => h) (Or.inl ⟨by rfl, ?_⟩) ?_ ?_
  rotate_left
  · intro w'
    go_simp
    with_reducible rfl
  rotate_left
  · simp only [Act.put, List.setIfInBounds_toArray, List.set_cons_zero, List.set_cons_succ, i64_w, i32_w]
    rfl
  refine pure_ (i := 10) (N := some 72) (v := ?_) (a' := ?_) ref_mix_r3.l10 rfl rfl (any_of HT_.out (by kernel_rfl)) (fun _ _ _ h => h) (Or.inl ⟨by rfl, ?_⟩) ?_ ?_
  rotate_left
  · intro w'
    go_simp
    with_reducible rfl
  rotate_left
  · simp only [Act.put, List.setIfInBounds_toArray, List.set_cons_zero, List.set_cons_succ, i64_w, i32_w]
    rfl
  refine take_ (i := 11) (N := some 73) (v := ?_) (a' := ?_) ref_mix_r3.l11 rfl rfl (take_ofW HT_.out HW_.out (by kernel_rfl)) (fun _ _ _ h => h) (Or.inl ⟨by rfl, ?_⟩) hHeld ?_ ?_
  rotate_left
  · intro w' hs_
    obtain ⟨s0, s1, s2⟩ := hs_
    go_simp
    with_reducible rfl
  rotate_left
  · simp only [Act.put, List.setIfInBounds_toArray, List.set_cons_zero, List.set_cons_succ, i64_w, i32_w]
    rfl
  refine pure_ (i := 12) (N := some 74) (v := ?_) (a' := ?_) ref_mix_r3.l12 rfl rfl (any_of HT_.out (by kernel_rfl)) (fun _ _ _ h => h) (Or.inl ⟨by rfl, ?_⟩) ?_ ?_
  rotate_left
  · intro w'
    go_simp
    with_reducible rfl
  rotate_left
  · simp only [Act.put, List.setIfInBounds_toArray, List.set_cons_zero, List.set_cons_succ, i64_w, i32_w]
    rfl
  refine pure_ (i := 14) (N := some 76) (v := ?_) (a' := ?_) ref_mix_r3.l13 rfl rfl (any_of HT_.out (by kernel_rfl)) (fun _ _ _ h => h) (Or.inl ⟨by rfl, ?_⟩) ?_ ?_
  rotate_left
  · intro w'
    go_simp
    with_reducible rfl
  rotate_left
  · simp only [Act.put, List.setIfInBounds_toArray, List.set_cons_zero, List.set_cons_succ, i64_w, i32_w]
    rfl
  refine one_ (i := 13) (N := some 75) ref_mix_r3.l14 rfl rfl (one_of HT_.out (by kernel_rfl)) (by decide) (fun K hK => ?_)
  refine goes_ Tryd.func37 (by kernel_rfl) rfl #[.int .u64 (Go.bits .xor .u64 v_p3 v_q3), .int .u64 24] (by rfl) rfl rfl (by (try simp only [List.map_toArray, List.map_cons, List.map_nil]); first | done | rfl) ?_
  refine (althingref2_turned.calls _ _ _ _ (rotR_some24 _)).mono ?_
  rintro e w9 ⟨rfl, ⟨m_, rfl⟩⟩
  refine ⟨_, rfl, ?_⟩
  refine hK.out _ _ hHeld (fun hHeld => ?_)
  clear hK K
  refine norm_ (a' := ?_) ?_ ?_
  rotate_left
  · show Act.put _ (some 75) _ = _
    simp only [Act.put, List.setIfInBounds_toArray, List.set_cons_zero, List.set_cons_succ, i64_w, i32_w]
    rfl
  refine pure_ (i := 15) (N := some 77) (v := ?_) (a' := ?_) ref_mix_r3.l15 rfl rfl (any_of HT_.out (by kernel_rfl)) (fun _ _ _ h => h) (Or.inl ⟨by rfl, ?_⟩) ?_ ?_
  rotate_left
  · intro w'
    go_simp
    with_reducible rfl
  rotate_left
  · simp only [Act.put, List.setIfInBounds_toArray, List.set_cons_zero, List.set_cons_succ, i64_w, i32_w]
    rfl
  refine last_ (i := 16) (N := none) ref_mix_r3.l16 rfl rfl (one_of HT_.out (by kernel_rfl)) (by decide) (fun K hK => ?_)
  clear hHeld
  refine skip_ (w1 := World.setCell (w3.drew.drewN m_) ⟨g, b, none⟩ (.int .u64 (rotR 24 (Go.bits .xor .u64 v_p3 v_q3)))) (by rfl) rfl ?_ ?_
  · go_simp
  refine hK.out _ _ ?_
  clear hK K
  refine done_ (done_of HT_.out (by kernel_rfl)) ?_
  clear s0 s1 s2
  clear HT_ HW_
  obtain ⟨V4, hV4⟩ : ∃ V', V' = ref_mix.step 3 V3 a b c d x y := ⟨_, rfl⟩
  have hL4 : V4.length = 16 := by rw [hV4, ref_mix.step_length]; exact hL3
  have n0_ := (HA.out.drew.drewN m_).set b (by omega) (rotR 24 (Go.bits .xor .u64 v_p3 v_q3))
  rw [show V3.set b (rotR 24 (Go.bits .xor .u64 v_p3 v_q3)) = V4 by rw [hV4, Hv_p.out, Hv_q.out]; rfl] at n0_
  have n1_ := grown_set (grown_drewN (grown_drew HG.out) m_) b (.int .u64 (rotR 24 (Go.bits .xor .u64 v_p3 v_q3)))
  generalize World.setCell _ _ _ = w4 at n0_ n1_ ⊢
  clear HA HG
  have HA := Aside0.mk n0_
  have HG := Aside0.mk n1_
  clear n0_ n1_ Hv_p Hv_q
  have hA4 := HA.out
  have s0 := hA4.cell a (by omega)
  have s1 := hA4.cell b (by omega)
  have s2 := hA4.frozen a (by omega)
  clear hA4
  obtain ⟨v_p4, hv_p⟩ : ∃ v, v = V4.getD a 0 := ⟨_, rfl⟩
  obtain ⟨v_q4, hv_q⟩ : ∃ v, v = V4.getD b 0 := ⟨_, rfl⟩
  rw [← hv_p] at s0
  rw [← hv_q] at s1
  have Hv_p := Aside0.mk hv_p
  have Hv_q := Aside0.mk hv_q
  clear hv_p hv_q
  go_upto_region 4 with (fail)
  refine start_ (n := 18) (S := fun w' => w'.cell? ⟨g, a, none⟩ = some (.int .u64 (v_p4)) ∧ w'.cell? ⟨g, b, none⟩ = some (.int .u64 (v_q4)) ∧ w'.frozen? ⟨g, a, none⟩ = false) (ds := [17]) #[false, false, false, false, false, false, false, false, false, false, false, false, false, false, false, false, false, false] (by kernel_rfl) rfl rfl ⟨s0, s1, s2⟩ (fun hHeld => ?_)
  refine with_tabW ref_mix_r4.tab ref_mix_r4.bits (fun HT_ HW_ => ?_)
  refine pure_ (i := 0) (N := some 78) (v := ?_) (a' := ?_) ref_mix_r4.l0 rfl rfl (any_of HT_.out (by kernel_rfl)) (fun _ _ _ h => h) (Or.inl ⟨by rfl, ?_⟩) ?_ ?_
  rotate_left
  · intro w'
    go_simp
    with_reducible rfl
  rotate_left
  · simp only [Act.put, List.setIfInBounds_toArray, List.set_cons_zero, List.set_cons_succ, i64_w, i32_w]
    rfl
  refine pure_ (i := 1) (N := some 79) (v := ?_) (a' := ?_) ref_mix_r4.l1 rfl rfl (any_of HT_.out (by kernel_rfl)) (fun _ _ _ h => h) (Or.inl ⟨by rfl, ?_⟩) ?_ ?_
  rotate_left
  · intro w'
    go_simp
    with_reducible rfl
  rotate_left
  · simp only [Act.put, List.setIfInBounds_toArray, List.set_cons_zero, List.set_cons_succ, i64_w, i32_w]
    rfl
  refine pure_ (i := 2) (N := some 80) (v := ?_) (a' := ?_) ref_mix_r4.l2 rfl rfl (any_of HT_.out (by kernel_rfl)) (fun _ _ _ h => h) (Or.inl ⟨by rfl, ?_⟩) ?_ ?_
  rotate_left
  · intro w'
    go_simp
    with_reducible rfl
  rotate_left
  · simp only [Act.put, List.setIfInBounds_toArray, List.set_cons_zero, List.set_cons_succ, i64_w, i32_w]
    rfl
  refine pure_ (i := 3) (N := some 81) (v := ?_) (a' := ?_) ref_mix_r4.l3 rfl rfl (any_of HT_.out (by kernel_rfl)) (fun _ _ _ h => h) (Or.inl ⟨by rfl, ?_⟩) ?_ ?_
  rotate_left
  · intro w'
    go_simp
    with_reducible rfl
  rotate_left
  · simp only [Act.put, List.setIfInBounds_toArray, List.set_cons_zero, List.set_cons_succ, i64_w, i32_w]
    rfl
  refine pure_ (i := 4) (N := some 82) (v := ?_) (a' := ?_) ref_mix_r4.l4 rfl rfl (any_of HT_.out (by kernel_rfl)) (fun _ _ _ h => h) (Or.inl ⟨by rfl, ?_⟩) ?_ ?_
  rotate_left
  · intro w'
    go_simp
    with_reducible rfl
  rotate_left
  · simp only [Act.put, List.setIfInBounds_toArray, List.set_cons_zero, List.set_cons_succ, i64_w, i32_w]
    rfl
  refine pure_ (i := 5) (N := some 83) (v := ?_) (a' := ?_) ref_mix_r4.l5 rfl rfl (any_of HT_.out (by kernel_rfl)) (fun _ _ _ h => h) (Or.inl ⟨by rfl, ?_⟩) ?_ ?_
  rotate_left
  · intro w'
    go_simp
    with_reducible rfl
  rotate_left
  · simp only [Act.put, List.setIfInBounds_toArray, List.set_cons_zero, List.set_cons_succ, i64_w, i32_w]
    rfl
  refine take_ (i := 6) (N := some 84) (v := ?_) (a' := ?_) ref_mix_r4.l6 rfl rfl (take_ofW HT_.out HW_.out (by kernel_rfl)) (fun _ _ _ h => h) (Or.inl ⟨by rfl, ?_⟩) hHeld ?_ ?_
  rotate_left
  · intro w' hs_
    obtain ⟨s0, s1, s2⟩ := hs_
    go_simp
    with_reducible rfl
  rotate_left
  · simp only [Act.put, List.setIfInBounds_toArray, List.set_cons_zero, List.set_cons_succ, i64_w, i32_w]
    rfl
  refine pure_ (i := 7) (N := some 85) (v := ?_) (a' := ?_) ref_mix_r4.l7 rfl rfl (any_of HT_.out (by kernel_rfl)) (fun _ _ _ h => h) (Or.inl ⟨by rfl, ?_⟩) ?_ ?_
  rotate_left
  · intro w'
    go_simp
    with_reducible rfl
  rotate_left
  · simp only [Act.put, List.setIfInBounds_toArray, List.set_cons_zero, List.set_cons_succ, i64_w, i32_w]
    rfl
  refine pure_ (i := 8) (N := some 86) (v := ?_) (a' := ?_) ref_mix_r4.l8 rfl rfl (any_of HT_.out (by kernel_rfl)) (fun _ _ _ h => h) (Or.inl ⟨by rfl, ?_⟩) ?_ ?_
  rotate_left
  · intro w'
    go_simp
    with_reducible rfl
  rotate_left
  · simp only [Act.put, List.setIfInBounds_toArray, List.set_cons_zero, List.set_cons_succ, i64_w, i32_w]
    rfl
  refine pure_ (i := 9) (N := some 87) (v := ?_) (a' := ?_) ref_mix_r4.l9 rfl rfl (any_of HT_.out (by kernel_rfl)) (fun _ _ _ h => h) (Or.inl ⟨by rfl, ?_⟩) ?_ ?_
  rotate_left
  · intro w'
    go_simp
    with_reducible rfl
  rotate_left
  · simp only [Act.put, List.setIfInBounds_toArray, List.set_cons_zero, List.set_cons_succ, i64_w, i32_w]
    rfl
  refine pure_ (i := 10) (N := some 88) (v := ?_) (a' := ?_) ref_mix_r4.l10 rfl rfl (any_of HT_.out (by kernel_rfl)) (fun _ _ _ h => h) (Or.inl ⟨by rfl, ?_⟩) ?_ ?_
  rotate_left
  · intro w'
    go_simp
    with_reducible rfl
  rotate_left
  · simp only [Act.put, List.setIfInBounds_toArray, List.set_cons_zero, List.set_cons_succ, i64_w, i32_w]
    rfl
  refine take_ (i := 11) (N := some 89) (v := ?_) (a' := ?_) ref_mix_r4.l11 rfl rfl (take_ofW HT_.out HW_.out (by kernel_rfl)) (fun _ _ _ h => h) (Or.inl ⟨by rfl, ?_⟩) hHeld ?_ ?_
  rotate_left
  · intro w' hs_
    obtain ⟨s0, s1, s2⟩ := hs_
    go_simp
    with_reducible rfl
  rotate_left
  · simp only [Act.put, List.setIfInBounds_toArray, List.set_cons_zero, List.set_cons_succ, i64_w, i32_w]
    rfl
  refine pure_ (i := 12) (N := some 90) (v := ?_) (a' := ?_) ref_mix_r4.l12 rfl rfl (any_of HT_.out (by kernel_rfl)) (fun _ _ _ h => h) (Or.inl ⟨by rfl, ?_⟩) ?_ ?_
  rotate_left
  · intro w'
    go_simp
    with_reducible rfl
  rotate_left
  · simp only [Act.put, List.setIfInBounds_toArray, List.set_cons_zero, List.set_cons_succ, i64_w, i32_w]
    rfl
  refine pure_ (i := 13) (N := some 91) (v := ?_) (a' := ?_) ref_mix_r4.l13 rfl rfl (any_of HT_.out (by kernel_rfl)) (fun _ _ _ h => h) (Or.inl ⟨by rfl, ?_⟩) ?_ ?_
  rotate_left
  · intro w'
    go_simp
    with_reducible rfl
  rotate_left
  · simp only [Act.put, List.setIfInBounds_toArray, List.set_cons_zero, List.set_cons_succ, i64_w, i32_w]
    rfl
  refine pure_ (i := 14) (N := some 92) (v := ?_) (a' := ?_) ref_mix_r4.l14 rfl rfl (any_of HT_.out (by kernel_rfl)) (fun _ _ _ h => h) (Or.inl ⟨by rfl, ?_⟩) ?_ ?_
  rotate_left
  · intro w'
    go_simp
    with_reducible rfl
  rotate_left
  · simp only [Act.put, List.setIfInBounds_toArray, List.set_cons_zero, List.set_cons_succ, i64_w, i32_w]
    rfl
  refine pure_ (i := 15) (N := some 93) (v := ?_) (a' := ?_) ref_mix_r4.l15 rfl rfl (any_of HT_.out (by kernel_rfl)) (fun _ _ _ h => h) (Or.inl ⟨by rfl, ?_⟩) ?_ ?_
  rotate_left
  · intro w'
    go_simp
    with_reducible rfl
  rotate_left
  · simp only [Act.put, List.setIfInBounds_toArray, List.set_cons_zero, List.set_cons_succ, i64_w, i32_w]
    rfl
  refine pure_ (i := 16) (N := some 94) (v := ?_) (a' := ?_) ref_mix_r4.l16 rfl rfl (any_of HT_.out (by kernel_rfl)) (fun _ _ _ h => h) (Or.inl ⟨by rfl, ?_⟩) ?_ ?_
  rotate_left
  · intro w'
    go_simp
    with_reducible rfl
  rotate_left
  · simp only [Act.put, List.setIfInBounds_toArray, List.set_cons_zero, List.set_cons_succ, i64_w, i32_w]
    rfl
  refine last_ (i := 17) (N := none) ref_mix_r4.l17 rfl rfl (one_of HT_.out (by kernel_rfl)) (by decide) (fun K hK => ?_)
  clear hHeld
  refine skip_ (w1 := World.setCell w4.drew ⟨g, a, none⟩ (.int .u64 (wr (wr (v_p4 + v_q4) + y)))) (by rfl) rfl ?_ ?_
  · go_simp
  refine hK.out _ _ ?_
  clear hK K
  refine done_ (done_of HT_.out (by kernel_rfl)) ?_
  clear s0 s1 s2
  clear HT_ HW_
  obtain ⟨V5, hV5⟩ : ∃ V', V' = ref_mix.step 4 V4 a b c d x y := ⟨_, rfl⟩
  have hL5 : V5.length = 16 := by rw [hV5, ref_mix.step_length]; exact hL4
  have n0_ := HA.out.drew.set a (by omega) (wr (wr (v_p4 + v_q4) + y))
  rw [show V4.set a (wr (wr (v_p4 + v_q4) + y)) = V5 by rw [hV5, Hv_p.out, Hv_q.out]; rfl] at n0_
  have n1_ := grown_set (grown_drew HG.out) a (.int .u64 (wr (wr (v_p4 + v_q4) + y)))
  generalize World.setCell _ _ _ = w5 at n0_ n1_ ⊢
  clear HA HG
  have HA := Aside0.mk n0_
  have HG := Aside0.mk n1_
  clear n0_ n1_ Hv_p Hv_q
  have hA5 := HA.out
  have s0 := hA5.cell d (by omega)
  have s1 := hA5.cell a (by omega)
  have s2 := hA5.frozen d (by omega)
  clear hA5
  obtain ⟨v_p5, hv_p⟩ : ∃ v, v = V5.getD d 0 := ⟨_, rfl⟩
  obtain ⟨v_q5, hv_q⟩ : ∃ v, v = V5.getD a 0 := ⟨_, rfl⟩
  rw [← hv_p] at s0
  rw [← hv_q] at s1
  have Hv_p := Aside0.mk hv_p
  have Hv_q := Aside0.mk hv_q
  clear hv_p hv_q
  go_upto_region 5 with (fail)
  refine start_ (n := 17) (S := fun w' => w'.cell? ⟨g, d, none⟩ = some (.int .u64 (v_p5)) ∧ w'.cell? ⟨g, a, none⟩ = some (.int .u64 (v_q5)) ∧ w'.frozen? ⟨g, d, none⟩ = false) (ds := [16]) #[false, false, false, false, false, false, false, false, false, false, false, false, false, false, false, false, false] (by kernel_rfl) rfl rfl ⟨s0, s1, s2⟩ (fun hHeld => ?_)
  refine with_tabW ref_mix_r5.tab ref_mix_r5.bits (fun HT_ HW_ => ?_)
  refine pure_ (i := 0) (N := some 95) (v := ?_) (a' := ?_) ref_mix_r5.l0 rfl rfl (any_of HT_.out (by kernel_rfl)) (fun _ _ _ h => h) (Or.inl ⟨by rfl, ?_⟩) ?_ ?_
  rotate_left
  · intro w'
    go_simp
    with_reducible rfl
  rotate_left
  · simp only [Act.put, List.setIfInBounds_toArray, List.set_cons_zero, List.set_cons_succ, i64_w, i32_w]
    rfl
  refine pure_ (i := 1) (N := some 96) (v := ?_) (a' := ?_) ref_mix_r5.l1 rfl rfl (any_of HT_.out (by kernel_rfl)) (fun _ _ _ h => h) (Or.inl ⟨by rfl, ?_⟩) ?_ ?_
  rotate_left
  · intro w'
    go_simp
    with_reducible rfl
  rotate_left
  · simp only [Act.put, List.setIfInBounds_toArray, List.set_cons_zero, List.set_cons_succ, i64_w, i32_w]
    rfl
  refine pure_ (i := 2) (N := some 97) (v := ?_) (a' := ?_) ref_mix_r5.l2 rfl rfl (any_of HT_.out (by kernel_rfl)) (fun _ _ _ h => h) (Or.inl ⟨by rfl, ?_⟩) ?_ ?_
  rotate_left
  · intro w'
    go_simp
    with_reducible rfl
  rotate_left
  · simp only [Act.put, List.setIfInBounds_toArray, List.set_cons_zero, List.set_cons_succ, i64_w, i32_w]
    rfl
  refine pure_ (i := 3) (N := some 98) (v := ?_) (a' := ?_) ref_mix_r5.l3 rfl rfl (any_of HT_.out (by kernel_rfl)) (fun _ _ _ h => h) (Or.inl ⟨by rfl, ?_⟩) ?_ ?_
  rotate_left
  · intro w'
    go_simp
    with_reducible rfl
  rotate_left
  · simp only [Act.put, List.setIfInBounds_toArray, List.set_cons_zero, List.set_cons_succ, i64_w, i32_w]
    rfl
  refine pure_ (i := 4) (N := some 99) (v := ?_) (a' := ?_) ref_mix_r5.l4 rfl rfl (any_of HT_.out (by kernel_rfl)) (fun _ _ _ h => h) (Or.inl ⟨by rfl, ?_⟩) ?_ ?_
  rotate_left
  · intro w'
    go_simp
    with_reducible rfl
  rotate_left
  · simp only [Act.put, List.setIfInBounds_toArray, List.set_cons_zero, List.set_cons_succ, i64_w, i32_w]
    rfl
  refine pure_ (i := 5) (N := some 100) (v := ?_) (a' := ?_) ref_mix_r5.l5 rfl rfl (any_of HT_.out (by kernel_rfl)) (fun _ _ _ h => h) (Or.inl ⟨by rfl, ?_⟩) ?_ ?_
  rotate_left
  · intro w'
    go_simp
    with_reducible rfl
  rotate_left
  · simp only [Act.put, List.setIfInBounds_toArray, List.set_cons_zero, List.set_cons_succ, i64_w, i32_w]
    rfl
  refine take_ (i := 6) (N := some 101) (v := ?_) (a' := ?_) ref_mix_r5.l6 rfl rfl (take_ofW HT_.out HW_.out (by kernel_rfl)) (fun _ _ _ h => h) (Or.inl ⟨by rfl, ?_⟩) hHeld ?_ ?_
  rotate_left
  · intro w' hs_
    obtain ⟨s0, s1, s2⟩ := hs_
    go_simp
    with_reducible rfl
  rotate_left
  · simp only [Act.put, List.setIfInBounds_toArray, List.set_cons_zero, List.set_cons_succ, i64_w, i32_w]
    rfl
  refine pure_ (i := 7) (N := some 102) (v := ?_) (a' := ?_) ref_mix_r5.l7 rfl rfl (any_of HT_.out (by kernel_rfl)) (fun _ _ _ h => h) (Or.inl ⟨by rfl, ?_⟩) ?_ ?_
  rotate_left
  · intro w'
    go_simp
    with_reducible rfl
  rotate_left
  · simp only [Act.put, List.setIfInBounds_toArray, List.set_cons_zero, List.set_cons_succ, i64_w, i32_w]
    rfl
  refine pure_ (i := 8) (N := some 103) (v := ?_) (a' := ?_) ref_mix_r5.l8 rfl rfl (any_of HT_.out (by kernel_rfl)) (fun _ _ _ h => h) (Or.inl ⟨by rfl, ?_⟩) ?_ ?_
  rotate_left
  · intro w'
    go_simp
    with_reducible rfl
  rotate_left
  · simp only [Act.put, List.setIfInBounds_toArray, List.set_cons_zero, List.set_cons_succ, i64_w, i32_w]
    rfl
  refine pure_ (i := 9) (N := some 104) (v := ?_) (a' := ?_) ref_mix_r5.l9 rfl rfl (any_of HT_.out (by kernel_rfl)) (fun _ _ _ h => h) (Or.inl ⟨by rfl, ?_⟩) ?_ ?_
  rotate_left
  · intro w'
    go_simp
    with_reducible rfl
  rotate_left
  · simp only [Act.put, List.setIfInBounds_toArray, List.set_cons_zero, List.set_cons_succ, i64_w, i32_w]
    rfl
  refine pure_ (i := 10) (N := some 105) (v := ?_) (a' := ?_) ref_mix_r5.l10 rfl rfl (any_of HT_.out (by kernel_rfl)) (fun _ _ _ h => h) (Or.inl ⟨by rfl, ?_⟩) ?_ ?_
  rotate_left
  · intro w'
    go_simp
    with_reducible rfl
  rotate_left
  · simp only [Act.put, List.setIfInBounds_toArray, List.set_cons_zero, List.set_cons_succ, i64_w, i32_w]
    rfl
  refine take_ (i := 11) (N := some 106) (v := ?_) (a' := ?_) ref_mix_r5.l11 rfl rfl (take_ofW HT_.out HW_.out (by kernel_rfl)) (fun _ _ _ h => h) (Or.inl ⟨by rfl, ?_⟩) hHeld ?_ ?_
  rotate_left
  · intro w' hs_
    obtain ⟨s0, s1, s2⟩ := hs_
    go_simp
    with_reducible rfl
  rotate_left
  · simp only [Act.put, List.setIfInBounds_toArray, List.set_cons_zero, List.set_cons_succ, i64_w, i32_w]
    rfl
  refine pure_ (i := 12) (N := some 107) (v := ?_) (a' := ?_) ref_mix_r5.l12 rfl rfl (any_of HT_.out (by kernel_rfl)) (fun _ _ _ h => h) (Or.inl ⟨by rfl, ?_⟩) ?_ ?_
  rotate_left
  · intro w'
    go_simp
    with_reducible rfl
  rotate_left
  · simp only [Act.put, List.setIfInBounds_toArray, List.set_cons_zero, List.set_cons_succ, i64_w, i32_w]
    rfl
  refine pure_ (i := 14) (N := some 109) (v := ?_) (a' := ?_) ref_mix_r5.l13 rfl rfl (any_of HT_.out (by kernel_rfl)) (fun _ _ _ h => h) (Or.inl ⟨by rfl, ?_⟩) ?_ ?_
  rotate_left
  · intro w'
    go_simp
    with_reducible rfl
  rotate_left
  · simp only [Act.put, List.setIfInBounds_toArray, List.set_cons_zero, List.set_cons_succ, i64_w, i32_w]
    rfl
  refine one_ (i := 13) (N := some 108) ref_mix_r5.l14 rfl rfl (one_of HT_.out (by kernel_rfl)) (by decide) (fun K hK => ?_)
  refine goes_ Tryd.func37 (by kernel_rfl) rfl #[.int .u64 (Go.bits .xor .u64 v_p5 v_q5), .int .u64 16] (by rfl) rfl rfl (by (try simp only [List.map_toArray, List.map_cons, List.map_nil]); first | done | rfl) ?_
  refine (althingref2_turned.calls _ _ _ _ (rotR_some16 _)).mono ?_
  rintro e w9 ⟨rfl, ⟨m_, rfl⟩⟩
  refine ⟨_, rfl, ?_⟩
  refine hK.out _ _ hHeld (fun hHeld => ?_)
  clear hK K
  refine norm_ (a' := ?_) ?_ ?_
  rotate_left
  · show Act.put _ (some 108) _ = _
    simp only [Act.put, List.setIfInBounds_toArray, List.set_cons_zero, List.set_cons_succ, i64_w, i32_w]
    rfl
  refine pure_ (i := 15) (N := some 110) (v := ?_) (a' := ?_) ref_mix_r5.l15 rfl rfl (any_of HT_.out (by kernel_rfl)) (fun _ _ _ h => h) (Or.inl ⟨by rfl, ?_⟩) ?_ ?_
  rotate_left
  · intro w'
    go_simp
    with_reducible rfl
  rotate_left
  · simp only [Act.put, List.setIfInBounds_toArray, List.set_cons_zero, List.set_cons_succ, i64_w, i32_w]
    rfl
  refine last_ (i := 16) (N := none) ref_mix_r5.l16 rfl rfl (one_of HT_.out (by kernel_rfl)) (by decide) (fun K hK => ?_)
  clear hHeld
  refine skip_ (w1 := World.setCell (w5.drew.drewN m_) ⟨g, d, none⟩ (.int .u64 (rotR 16 (Go.bits .xor .u64 v_p5 v_q5)))) (by rfl) rfl ?_ ?_
  · go_simp
  refine hK.out _ _ ?_
  clear hK K
  refine done_ (done_of HT_.out (by kernel_rfl)) ?_
  clear s0 s1 s2
  clear HT_ HW_
  obtain ⟨V6, hV6⟩ : ∃ V', V' = ref_mix.step 5 V5 a b c d x y := ⟨_, rfl⟩
  have hL6 : V6.length = 16 := by rw [hV6, ref_mix.step_length]; exact hL5
  have n0_ := (HA.out.drew.drewN m_).set d (by omega) (rotR 16 (Go.bits .xor .u64 v_p5 v_q5))
  rw [show V5.set d (rotR 16 (Go.bits .xor .u64 v_p5 v_q5)) = V6 by rw [hV6, Hv_p.out, Hv_q.out]; rfl] at n0_
  have n1_ := grown_set (grown_drewN (grown_drew HG.out) m_) d (.int .u64 (rotR 16 (Go.bits .xor .u64 v_p5 v_q5)))
  generalize World.setCell _ _ _ = w6 at n0_ n1_ ⊢
  clear HA HG
  have HA := Aside0.mk n0_
  have HG := Aside0.mk n1_
  clear n0_ n1_ Hv_p Hv_q
  have hA6 := HA.out
  have s0 := hA6.cell c (by omega)
  have s1 := hA6.cell d (by omega)
  have s2 := hA6.frozen c (by omega)
  clear hA6
  obtain ⟨v_p6, hv_p⟩ : ∃ v, v = V6.getD c 0 := ⟨_, rfl⟩
  obtain ⟨v_q6, hv_q⟩ : ∃ v, v = V6.getD d 0 := ⟨_, rfl⟩
  rw [← hv_p] at s0
  rw [← hv_q] at s1
  have Hv_p := Aside0.mk hv_p
  have Hv_q := Aside0.mk hv_q
  clear hv_p hv_q
  go_upto_region 6 with (fail)
  refine start_ (n := 16) (S := fun w' => w'.cell? ⟨g, c, none⟩ = some (.int .u64 (v_p6)) ∧ w'.cell? ⟨g, d, none⟩ = some (.int .u64 (v_q6)) ∧ w'.frozen? ⟨g, c, none⟩ = false) (ds := [15]) #[false, false, false, false, false, false, false, false, false, false, false, false, false, false, false, false] (by kernel_rfl) rfl rfl ⟨s0, s1, s2⟩ (fun hHeld => ?_)
  refine with_tabW ref_mix_r6.tab ref_mix_r6.bits (fun HT_ HW_ => ?_)
  refine pure_ (i := 0) (N := some 111) (v := ?_) (a' := ?_) ref_mix_r6.l0 rfl rfl (any_of HT_.out (by kernel_rfl)) (fun _ _ _ h => h) (Or.inl ⟨by rfl, ?_⟩) ?_ ?_
  rotate_left
  · intro w'
    go_simp
    with_reducible rfl
  rotate_left
  · simp only [Act.put, List.setIfInBounds_toArray, List.set_cons_zero, List.set_cons_succ, i64_w, i32_w]
    rfl
  refine pure_ (i := 1) (N := some 112) (v := ?_) (a' := ?_) ref_mix_r6.l1 rfl rfl (any_of HT_.out (by kernel_rfl)) (fun _ _ _ h => h) (Or.inl ⟨by rfl, ?_⟩) ?_ ?_
  rotate_left
  · intro w'
    go_simp
    with_reducible rfl
  rotate_left
  · simp only [Act.put, List.setIfInBounds_toArray, List.set_cons_zero, List.set_cons_succ, i64_w, i32_w]
    rfl
  refine pure_ (i := 2) (N := some 113) (v := ?_) (a' := ?_) ref_mix_r6.l2 rfl rfl (any_of HT_.out (by kernel_rfl)) (fun _ _ _ h => h) (Or.inl ⟨by rfl, ?_⟩) ?_ ?_
  rotate_left
  · intro w'
    go_simp
    with_reducible rfl
  rotate_left
  · simp only [Act.put, List.setIfInBounds_toArray, List.set_cons_zero, List.set_cons_succ, i64_w, i32_w]
    rfl
  refine pure_ (i := 3) (N := some 114) (v := ?_) (a' := ?_) ref_mix_r6.l3 rfl rfl (any_of HT_.out (by kernel_rfl)) (fun _ _ _ h => h) (Or.inl ⟨by rfl, ?_⟩) ?_ ?_
  rotate_left
  · intro w'
    go_simp
    with_reducible rfl
  rotate_left
  · simp only [Act.put, List.setIfInBounds_toArray, List.set_cons_zero, List.set_cons_succ, i64_w, i32_w]
    rfl
  refine pure_ (i := 4) (N := some 115) (v := ?_) (a' := ?_) ref_mix_r6.l4 rfl rfl (any_of HT_.out (by kernel_rfl)) (fun _ _ _ h => h) (Or.inl ⟨by rfl, ?_⟩) ?_ ?_
  rotate_left
  · intro w'
    go_simp
    with_reducible rfl
  rotate_left
  · simp only [Act.put, List.setIfInBounds_toArray, List.set_cons_zero, List.set_cons_succ, i64_w, i32_w]
    rfl
  refine pure_ (i := 5) (N := some 116) (v := ?_) (a' := ?_) ref_mix_r6.l5 rfl rfl (any_of HT_.out (by kernel_rfl)) (fun _ _ _ h => h) (Or.inl ⟨by rfl, ?_⟩) ?_ ?_
  rotate_left
  · intro w'
    go_simp
    with_reducible rfl
  rotate_left
  · simp only [Act.put, List.setIfInBounds_toArray, List.set_cons_zero, List.set_cons_succ, i64_w, i32_w]
    rfl
  refine take_ (i := 6) (N := some 117) (v := ?_) (a' := ?_) ref_mix_r6.l6 rfl rfl (take_ofW HT_.out HW_.out (by kernel_rfl)) (fun _ _ _ h => h) (Or.inl ⟨by rfl, ?_⟩) hHeld ?_ ?_
  rotate_left
  · intro w' hs_
    obtain ⟨s0, s1, s2⟩ := hs_
    go_simp
    with_reducible rfl
  rotate_left
  · simp only [Act.put, List.setIfInBounds_toArray, List.set_cons_zero, List.set_cons_succ, i64_w, i32_w]
    rfl
  refine pure_ (i := 7) (N := some 118) (v := ?_) (a' := ?_) ref_mix_r6.l7 rfl rfl (any_of HT_.out (by kernel_rfl)) (fun _ _ _ h => h) (Or.inl ⟨by rfl, ?_⟩) ?_ ?_
  rotate_left
  · intro w'
    go_simp
    with_reducible rfl
  rotate_left
  · simp only [Act.put, List.setIfInBounds_toArray, List.set_cons_zero, List.set_cons_succ, i64_w, i32_w]
    rfl
  refine pure_ (i := 8) (N := some 119) (v := ?_) (a' := ?_) ref_mix_r6.l8 rfl rfl (any_of HT_.out (by kernel_rfl)) (fun _ _ _ h => h) (Or.inl ⟨by rfl, ?_⟩) ?_ ?_
  rotate_left
  · intro w'
    go_simp
    with_reducible rfl
  rotate_left
  · simp only [Act.put, List.setIfInBounds_toArray, List.set_cons_zero, List.set_cons_succ, i64_w, i32_w]
    rfl
  refine pure_ (i := 9) (N := some 120) (v := ?_) (a' := ?_) ref_mix_r6.l9 rfl rfl (any_of HT_.out (by kernel_rfl)) (fun _ _ _ h => h) (Or.inl ⟨by rfl, ?_⟩) ?_ ?_
  rotate_left
  · intro w'
    go_simp
    with_reducible rfl
  rotate_left
  · simp only [Act.put, List.setIfInBounds_toArray, List.set_cons_zero, List.set_cons_succ, i64_w, i32_w]
    rfl
  refine pure_ (i := 10) (N := some 121) (v := ?_) (a' := ?_) ref_mix_r6.l10 rfl rfl (any_of HT_.out (by kernel_rfl)) (fun _ _ _ h => h) (Or.inl ⟨by rfl, ?_⟩) ?_ ?_
  rotate_left
  · intro w'
    go_simp
    with_reducible rfl
  rotate_left
  · simp only [Act.put, List.setIfInBounds_toArray, List.set_cons_zero, List.set_cons_succ, i64_w, i32_w]
    rfl
  refine take_ (i := 11) (N := some 122) (v := ?_) (a' := ?_) ref_mix_r6.l11 rfl rfl (take_ofW HT_.out HW_.out (by kernel_rfl)) (fun _ _ _ h => h) (Or.inl ⟨by rfl, ?_⟩) hHeld ?_ ?_
  rotate_left
  · intro w' hs_
    obtain ⟨s0, s1, s2⟩ := hs_
    go_simp
    with_reducible rfl
  rotate_left
  · simp only [Act.put, List.setIfInBounds_toArray, List.set_cons_zero, List.set_cons_succ, i64_w, i32_w]
    rfl
  refine pure_ (i := 12) (N := some 123) (v := ?_) (a' := ?_) ref_mix_r6.l12 rfl rfl (any_of HT_.out (by kernel_rfl)) (fun _ _ _ h => h) (Or.inl ⟨by rfl, ?_⟩) ?_ ?_
  rotate_left
  · intro w'
    go_simp
    with_reducible rfl
  rotate_left
  · simp only [Act.put, List.setIfInBounds_toArray, List.set_cons_zero, List.set_cons_succ, i64_w, i32_w]
    rfl
  refine pure_ (i := 13) (N := some 124) (v := ?_) (a' := ?_) ref_mix_r6.l13 rfl rfl (any_of HT_.out (by kernel_rfl)) (fun _ _ _ h => h) (Or.inl ⟨by rfl, ?_⟩) ?_ ?_
  rotate_left
  · intro w'
    go_simp
    with_reducible rfl
  rotate_left
  · simp only [Act.put, List.setIfInBounds_toArray, List.set_cons_zero, List.set_cons_succ, i64_w, i32_w]
    rfl
  refine pure_ (i := 14) (N := some 125) (v := ?_) (a' := ?_) ref_mix_r6.l14 rfl rfl (any_of HT_.out (by kernel_rfl)) (fun _ _ _ h => h) (Or.inl ⟨by rfl, ?_⟩) ?_ ?_
  rotate_left
  · intro w'
    go_simp
    with_reducible rfl
  rotate_left
  · simp only [Act.put, List.setIfInBounds_toArray, List.set_cons_zero, List.set_cons_succ, i64_w, i32_w]
    rfl
  refine last_ (i := 15) (N := none) ref_mix_r6.l15 rfl rfl (one_of HT_.out (by kernel_rfl)) (by decide) (fun K hK => ?_)
  clear hHeld
  refine skip_ (w1 := World.setCell w6.drew ⟨g, c, none⟩ (.int .u64 (wr (v_p6 + v_q6)))) (by rfl) rfl ?_ ?_
  · go_simp
  refine hK.out _ _ ?_
  clear hK K
  refine done_ (done_of HT_.out (by kernel_rfl)) ?_
  clear s0 s1 s2
  clear HT_ HW_
  obtain ⟨V7, hV7⟩ : ∃ V', V' = ref_mix.step 6 V6 a b c d x y := ⟨_, rfl⟩
  have hL7 : V7.length = 16 := by rw [hV7, ref_mix.step_length]; exact hL6
  have n0_ := HA.out.drew.set c (by omega) (wr (v_p6 + v_q6))
  rw [show V6.set c (wr (v_p6 + v_q6)) = V7 by rw [hV7, Hv_p.out, Hv_q.out]; rfl] at n0_
  have n1_ := grown_set (grown_drew HG.out) c (.int .u64 (wr (v_p6 + v_q6)))
  generalize World.setCell _ _ _ = w7 at n0_ n1_ ⊢
  clear HA HG
  have HA := Aside0.mk n0_
  have HG := Aside0.mk n1_
  clear n0_ n1_ Hv_p Hv_q
  have hA7 := HA.out
  have s0 := hA7.cell b (by omega)
  have s1 := hA7.cell c (by omega)
  have s2 := hA7.frozen b (by omega)
  clear hA7
  obtain ⟨v_p7, hv_p⟩ : ∃ v, v = V7.getD b 0 := ⟨_, rfl⟩
  obtain ⟨v_q7, hv_q⟩ : ∃ v, v = V7.getD c 0 := ⟨_, rfl⟩
  rw [← hv_p] at s0
  rw [← hv_q] at s1
  have Hv_p := Aside0.mk hv_p
  have Hv_q := Aside0.mk hv_q
  clear hv_p hv_q
  go_upto_region 7 with (fail)
  refine start_ (n := 17) (S := fun w' => w'.cell? ⟨g, b, none⟩ = some (.int .u64 (v_p7)) ∧ w'.cell? ⟨g, c, none⟩ = some (.int .u64 (v_q7)) ∧ w'.frozen? ⟨g, b, none⟩ = false) (ds := [16]) #[false, false, false, false, false, false, false, false, false, false, false, false, false, false, false, false, false] (by kernel_rfl) rfl rfl ⟨s0, s1, s2⟩ (fun hHeld => ?_)
  refine with_tabW ref_mix_r7.tab ref_mix_r7.bits (fun HT_ HW_ => ?_)
  refine pure_ (i := 0) (N := some 126) (v := ?_) (a' := ?_) ref_mix_r7.l0 rfl rfl (any_of HT_.out (by kernel_rfl)) (fun _ _ _ h => h) (Or.inl ⟨by rfl, ?_⟩) ?_ ?_
  rotate_left
  · intro w'
    go_simp
    with_reducible rfl
  rotate_left
  · simp only [Act.put, List.setIfInBounds_toArray, List.set_cons_zero, List.set_cons_succ, i64_w, i32_w]
    rfl
  refine pure_ (i := 1) (N := some 127) (v := ?_) (a' := ?_) ref_mix_r7.l1 rfl rfl (any_of HT_.out (by kernel_rfl)) (fun _ _ _ h => h) (Or.inl ⟨by rfl, ?_⟩) ?_ ?_
  rotate_left
  · intro w'
    go_simp
    with_reducible rfl
  rotate_left
  · simp only [Act.put, List.setIfInBounds_toArray, List.set_cons_zero, List.set_cons_succ, i64_w, i32_w]
    rfl
  refine pure_ (i := 2) (N := some 128) (v := ?_) (a' := ?_) ref_mix_r7.l2 rfl rfl (any_of HT_.out (by kernel_rfl)) (fun _ _ _ h => h) (Or.inl ⟨by rfl, ?_⟩) ?_ ?_
  rotate_left
  · intro w'
    go_simp
    with_reducible rfl
  rotate_left
  · simp only [Act.put, List.setIfInBounds_toArray, List.set_cons_zero, List.set_cons_succ, i64_w, i32_w]
    rfl
  refine pure_ (i := 3) (N := some 129) (v := ?_) (a' := ?_) ref_mix_r7.l3 rfl rfl (any_of HT_.out (by kernel_rfl)) (fun _ _ _ h => h) (Or.inl ⟨by rfl, ?_⟩) ?_ ?_
  rotate_left
  · intro w'
    go_simp
    with_reducible rfl
  rotate_left
  · simp only [Act.put, List.setIfInBounds_toArray, List.set_cons_zero, List.set_cons_succ, i64_w, i32_w]
    rfl
  refine pure_ (i := 4) (N := some 130) (v := ?_) (a' := ?_) ref_mix_r7.l4 rfl rfl (any_of HT_.out (by kernel_rfl)) (fun _ _ _ h => h) (Or.inl ⟨by rfl, ?_⟩) ?_ ?_
  rotate_left
  · intro w'
    go_simp
    with_reducible rfl
  rotate_left
  · simp only [Act.put, List.setIfInBounds_toArray, List.set_cons_zero, List.set_cons_succ, i64_w, i32_w]
    rfl
  refine pure_ (i := 5) (N := some 131) (v := ?_) (a' := ?_) ref_mix_r7.l5 rfl rfl (any_of HT_.out (by kernel_rfl)) (fun _ _ _ h => h) (Or.inl ⟨by rfl, ?_⟩) ?_ ?_
  rotate_left
  · intro w'
    go_simp
    with_reducible rfl
  rotate_left
  · simp only [Act.put, List.setIfInBounds_toArray, List.set_cons_zero, List.set_cons_succ, i64_w, i32_w]
    rfl
  refine take_ (i := 6) (N := some 132) (v := ?_) (a' := ?_) ref_mix_r7.l6 rfl rfl (take_ofW HT_.out HW_.out (by kernel_rfl)) (fun _ _ _ h => h) (Or.inl ⟨by rfl, ?_⟩) hHeld ?_ ?_
  rotate_left
  · intro w' hs_
    obtain ⟨s0, s1, s2⟩ := hs_
    go_simp
    with_reducible rfl
  rotate_left
  · simp only [Act.put, List.setIfInBounds_toArray, List.set_cons_zero, List.set_cons_succ, i64_w, i32_w]
    rfl
  refine pure_ (i := 7) (N := some 133) (v := ?_) (a' := ?_) ref_mix_r7.l7 rfl rfl (any_of HT_.out (by kernel_rfl)) (fun _ _ _ h => h) (Or.inl ⟨by rfl, ?_⟩) ?_ ?_
  rotate_left
  · intro w'
    go_simp
    with_reducible rfl
  rotate_left
  · simp only [Act.put, List.setIfInBounds_toArray, List.set_cons_zero, List.set_cons_succ, i64_w, i32_w]
    rfl
  refine pure_ (i := 8) (N := some 134) (v := ?_) (a' := ?_) ref_mix_r7.l8 rfl rfl (any_of HT_.out (by kernel_rfl)) (fun _ _ _ h => h) (Or.inl ⟨by rfl, ?_⟩) ?_ ?_
  rotate_left
  · intro w'
    go_simp
    with_reducible rfl
  rotate_left
  · simp only [Act.put, List.setIfInBounds_toArray, List.set_cons_zero, List.set_cons_succ, i64_w, i32_w]
    rfl
  refine pure_ (i := 9) (N := some 135) (v := ?_) (a' := ?_) ref_mix_r7.l9 rfl rfl (any_of HT_.out (by kernel_rfl)) (fun _ _ _ h => h) (Or.inl ⟨by rfl, ?_⟩) ?_ ?_
  rotate_left
  · intro w'
    go_simp
    with_reducible rfl
  rotate_left
  · simp only [Act.put, List.setIfInBounds_toArray, List.set_cons_zero, List.set_cons_succ, i64_w, i32_w]
    rfl
  refine pure_ (i := 10) (N := some 136) (v := ?_) (a' := ?_) ref_mix_r7.l10 rfl rfl (any_of HT_.out (by kernel_rfl)) (fun _ _ _ h => h) (Or.inl ⟨by rfl, ?_⟩) ?_ ?_
  rotate_left
  · intro w'
    go_simp
    with_reducible rfl
  rotate_left
  · simp only [Act.put, List.setIfInBounds_toArray, List.set_cons_zero, List.set_cons_succ, i64_w, i32_w]
    rfl
  refine take_ (i := 11) (N := some 137) (v := ?_) (a' := ?_) ref_mix_r7.l11 rfl rfl (take_ofW HT_.out HW_.out (by kernel_rfl)) (fun _ _ _ h => h) (Or.inl ⟨by rfl, ?_⟩) hHeld ?_ ?_
  rotate_left
  · intro w' hs_
    obtain ⟨s0, s1, s2⟩ := hs_
    go_simp
    with_reducible rfl
  rotate_left
  · simp only [Act.put, List.setIfInBounds_toArray, List.set_cons_zero, List.set_cons_succ, i64_w, i32_w]
    rfl
  refine pure_ (i := 12) (N := some 138) (v := ?_) (a' := ?_) ref_mix_r7.l12 rfl rfl (any_of HT_.out (by kernel_rfl)) (fun _ _ _ h => h) (Or.inl ⟨by rfl, ?_⟩) ?_ ?_
  rotate_left
  · intro w'
    go_simp
    with_reducible rfl
  rotate_left
  · simp only [Act.put, List.setIfInBounds_toArray, List.set_cons_zero, List.set_cons_succ, i64_w, i32_w]
    rfl
  refine pure_ (i := 14) (N := some 140) (v := ?_) (a' := ?_) ref_mix_r7.l13 rfl rfl (any_of HT_.out (by kernel_rfl)) (fun _ _ _ h => h) (Or.inl ⟨by rfl, ?_⟩) ?_ ?_
  rotate_left
  · intro w'
    go_simp
    with_reducible rfl
  rotate_left
  · simp only [Act.put, List.setIfInBounds_toArray, List.set_cons_zero, List.set_cons_succ, i64_w, i32_w]
    rfl
  refine one_ (i := 13) (N := some 139) ref_mix_r7.l14 rfl rfl (one_of HT_.out (by kernel_rfl)) (by decide) (fun K hK => ?_)
  refine goes_ Tryd.func37 (by kernel_rfl) rfl #[.int .u64 (Go.bits .xor .u64 v_p7 v_q7), .int .u64 63] (by rfl) rfl rfl (by (try simp only [List.map_toArray, List.map_cons, List.map_nil]); first | done | rfl) ?_
  refine (althingref2_turned.calls _ _ _ _ (rotR_some63 _)).mono ?_
  rintro e w9 ⟨rfl, ⟨m_, rfl⟩⟩
  refine ⟨_, rfl, ?_⟩
  refine hK.out _ _ hHeld (fun hHeld => ?_)
  clear hK K
  refine norm_ (a' := ?_) ?_ ?_
  rotate_left
  · show Act.put _ (some 139) _ = _
    simp only [Act.put, List.setIfInBounds_toArray, List.set_cons_zero, List.set_cons_succ, i64_w, i32_w]
    rfl
  refine pure_ (i := 15) (N := some 141) (v := ?_) (a' := ?_) ref_mix_r7.l15 rfl rfl (any_of HT_.out (by kernel_rfl)) (fun _ _ _ h => h) (Or.inl ⟨by rfl, ?_⟩) ?_ ?_
  rotate_left
  · intro w'
    go_simp
    with_reducible rfl
  rotate_left
  · simp only [Act.put, List.setIfInBounds_toArray, List.set_cons_zero, List.set_cons_succ, i64_w, i32_w]
    rfl
  refine last_ (i := 16) (N := none) ref_mix_r7.l16 rfl rfl (one_of HT_.out (by kernel_rfl)) (by decide) (fun K hK => ?_)
  clear hHeld
  refine skip_ (w1 := World.setCell (w7.drew.drewN m_) ⟨g, b, none⟩ (.int .u64 (rotR 63 (Go.bits .xor .u64 v_p7 v_q7)))) (by rfl) rfl ?_ ?_
  · go_simp
  refine hK.out _ _ ?_
  clear hK K
  refine done_ (done_of HT_.out (by kernel_rfl)) ?_
  clear s0 s1 s2
  clear HT_ HW_
  obtain ⟨V8, hV8⟩ : ∃ V', V' = ref_mix.step 7 V7 a b c d x y := ⟨_, rfl⟩
  have hL8 : V8.length = 16 := by rw [hV8, ref_mix.step_length]; exact hL7
  have n0_ := (HA.out.drew.drewN m_).set b (by omega) (rotR 63 (Go.bits .xor .u64 v_p7 v_q7))
  rw [show V7.set b (rotR 63 (Go.bits .xor .u64 v_p7 v_q7)) = V8 by rw [hV8, Hv_p.out, Hv_q.out]; rfl] at n0_
  have n1_ := grown_set (grown_drewN (grown_drew HG.out) m_) b (.int .u64 (rotR 63 (Go.bits .xor .u64 v_p7 v_q7)))
  generalize World.setCell _ _ _ = w8 at n0_ n1_ ⊢
  clear HA HG
  have HA := Aside0.mk n0_
  have HG := Aside0.mk n1_
  clear n0_ n1_ Hv_p Hv_q
  refine bodyPost_end (v := .tuple #[]) (results_none rfl _ _ _) rfl ?_
  refine ⟨rfl, ?_, HG.out⟩
  have e : ref_mix.f V0 a b c d x y = V8 := by rw [hV8, hV7, hV6, hV5, hV4, hV3, hV2, hV1]; rfl
  rw [e]; exact HA.out
end Go.Proofs.YtpcokihfecbigaaDoor.G
