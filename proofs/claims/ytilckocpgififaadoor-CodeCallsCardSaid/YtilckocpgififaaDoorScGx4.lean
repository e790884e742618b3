import Derived.Test.YtilckocpgififaaDoorScHStep
-- Laid by this session's own program gprint.py over the kit's print (given functions are proved by hand).
namespace Go.Proofs.YtilckocpgififaaDoor.G
open Go.RowKit Go.Proofs.YtilckocpgififaaDoorW.PrintWords Go.Proofs.YtilckocpgififaaDoorW.PrintLast Go.Proofs.YtilckocpgififaaDoorW.PrintMore
attribute [local go_sem] max2_int min2_int max_two min_two max_three min_three max_four min_four   -- for this text's walks alone
set_option linter.unusedVariables false
set_option linter.unusedSimpArgs false
/-! ### bits_RotateLeft64: function 83 -/
def bits_RotateLeft64.f (a0 : Int) (a1 : Int) : Option (Int):=if 0 ≤ (Go.bits .and .u64 (IntKind.u64.wrap (a1)) 63) then (if 0 ≤ (IntKind.u64.wrap (64 - (Go.bits .and .u64 (IntKind.u64.wrap (a1)) 63))) then (some (Go.bits .or .u64 (shl .u64 a0 (Go.bits .and .u64 (IntKind.u64.wrap (a1)) 63)) (shr .u64 a0 (IntKind.u64.wrap (64 - (Go.bits .and .u64 (IntKind.u64.wrap (a1)) 63)))))) else (none)) else (none)
set_option maxHeartbeats 8000000 in
set_option maxRecDepth 100000 in
theorem bits_RotateLeft64.calls (a0 : Int) (a1 : Int) (r : Int) (w : World) (h : bits_RotateLeft64.f a0 a1 = some r) :
 Calls Tryd.prog 83 #[.int .u64 a0,.int .i64 a1] w fun e w'=>e = .returned (.int .u64 r) ∧ Drawn0 w w':=by
 have H : (if 0 ≤ (Go.bits .and .u64 (IntKind.u64.wrap (a1)) 63) then (if 0 ≤ (IntKind.u64.wrap (64 - (Go.bits .and .u64 (IntKind.u64.wrap (a1)) 63))) then (some (Go.bits .or .u64 (shl .u64 a0 (Go.bits .and .u64 (IntKind.u64.wrap (a1)) 63)) (shr .u64 a0 (IntKind.u64.wrap (64 - (Go.bits .and .u64 (IntKind.u64.wrap (a1)) 63)))))) else (none)) else (none)) = some r:=h;clear h;obtain ⟨ji3,hji3⟩ : ∃ j_ : Int,(Go.bits .and .u64 (IntKind.u64.wrap (a1)) 63) = j_:=⟨_,rfl⟩
 replace H : (if 0 ≤ (ji3) then (if 0 ≤ (IntKind.u64.wrap (64 - (ji3))) then (some (Go.bits .or .u64 (shl .u64 a0 (ji3)) (shr .u64 a0 (IntKind.u64.wrap (64 - (ji3)))))) else (none)) else (none)) = some r:=by first | (rw [hji3] at H;exact H) | (simp only [hji3] at H ⊢;exact H)
 by_cases c4 : 0 ≤ (ji3)
 rotate_left
 ·rw [if_neg c4] at H;exact absurd H (by simp)
 rw [if_pos c4] at H;have c4b0:=eq_true c4;have c4b1 : decide (0 ≤ (ji3)) = true:=decide_eq_true c4;clear c4;obtain ⟨ji5,hji5⟩ : ∃ j_ : Int,(shl .u64 a0 (ji3)) = j_:=⟨_,rfl⟩
 replace H : (if 0 ≤ (IntKind.u64.wrap (64 - (ji3))) then (some (Go.bits .or .u64 (ji5) (shr .u64 a0 (IntKind.u64.wrap (64 - (ji3)))))) else (none)) = some r:=by first | (rw [hji5] at H;exact H) | (simp only [hji5] at H ⊢;exact H)
 have hji5_ : (IntKind.u64.wrap (a0 * 2 ^ min (ji3).toNat 64)) = ji5:=hji5;have hji5z : (ji3) ≤ 64 → (IntKind.u64.wrap (a0 * 2 ^ (ji3).toNat)) = ji5:=shl_small hji5;obtain ⟨ji6,hji6⟩ : ∃ j_ : Int,(IntKind.u64.wrap (64 - (ji3))) = j_:=⟨_,rfl⟩
 replace H : (if 0 ≤ (ji6) then (some (Go.bits .or .u64 (ji5) (shr .u64 a0 (ji6)))) else (none)) = some r:=by first | (rw [hji6] at H;exact H) | (simp only [hji6] at H ⊢;exact H)
 by_cases c7 : 0 ≤ (ji6)
 rotate_left
 ·rw [if_neg c7] at H;exact absurd H (by simp)
 rw [if_pos c7] at H;have c7b0:=eq_true c7;have c7b1 : decide (0 ≤ (ji6)) = true:=decide_eq_true c7;clear c7;obtain ⟨ji8,hji8⟩ : ∃ j_ : Int,(shr .u64 a0 (ji6)) = j_:=⟨_,rfl⟩
 replace H : (some (Go.bits .or .u64 (ji5) (ji8))) = some r:=by first | (rw [hji8] at H;exact H) | (simp only [hji8] at H ⊢;exact H)
 have hji8_ : (a0 / 2 ^ min (ji6).toNat 64) = ji8:=hji8;have hji8z : (ji6) ≤ 64 → (a0 / 2 ^ (ji6).toNat) = ji8:=shr_small hji8;obtain rfl:=Option.some.inj H;go_enter Tryd.func83,Tryd.ntmps83
 go_wp2
 go_ret
 exact ⟨by first | rfl | (simp;done) | (simp only [← hji3,← hji5,← hji6,← hji8] <;> (first | rfl | simp)) | (simp [*];done),by repeat (first | exact Drawn0.refl _ | apply Drawn0.step)⟩
-- NOT PRINTED: function 79 (blake_mixes)
-- NOT PRINTED: function 70 (blake_round)
-- NOT PRINTED: function 52 (blake_state_block)
-- NOT PRINTED: function 30 (blake_Keyed)
-- NOT PRINTED: function 19 (blake_Sum)
-- NOT PRINTED: function 7 (code_Sum)
-- NOT PRINTED: function 31 (althingref2_begin)
/-! ### althingref2_order: function 53 -/
def althingref2_order.f (a0 : Int) : Option (ByteArray):=if (Int.tmod a0 10) = 0 then (some (⟨#[48,49,50,51,52,53,54,55,56,57,97,98,99,100,101,102]⟩ : ByteArray)) else (if (Int.tmod a0 10) = 1 then (some (⟨#[101,97,52,56,57,102,100,54,49,99,48,50,98,55,53,51]⟩ : ByteArray)) else (if (Int.tmod a0 10) = 2 then (some (⟨#[98,56,99,48,53,50,102,100,97,101,51,54,55,49,57,52]⟩ : ByteArray)) else (if (Int.tmod a0 10) = 3 then (some (⟨#[55,57,51,49,100,99,98,101,50,54,53,97,52,48,102,56]⟩ : ByteArray)) else (if (Int.tmod a0 10) = 4 then (some (⟨#[57,48,53,55,50,52,97,102,101,49,98,99,54,56,51,100]⟩ : ByteArray)) else (if (Int.tmod a0 10) = 5 then (some (⟨#[50,99,54,97,48,98,56,51,52,100,55,53,102,101,49,57]⟩ : ByteArray)) else (if (Int.tmod a0 10) = 6 then (some (⟨#[99,53,49,102,101,100,52,97,48,55,54,51,57,50,56,98]⟩ : ByteArray)) else (if (Int.tmod a0 10) = 7 then (some (⟨#[100,98,55,101,99,49,51,57,53,48,102,52,56,54,50,97]⟩ : ByteArray)) else (if (Int.tmod a0 10) = 8 then (some (⟨#[54,102,101,57,98,51,48,56,99,50,100,55,49,52,97,53]⟩ : ByteArray)) else (some (⟨#[97,50,56,52,55,54,49,53,102,98,57,101,51,99,100,48]⟩ : ByteArray))))))))))
set_option maxHeartbeats 8000000 in
set_option maxRecDepth 100000 in
theorem althingref2_order.calls (a0 : Int) (r : ByteArray) (w : World) (h : althingref2_order.f a0 = some r) :
 Calls Tryd.prog 53 #[.int .i64 a0] w fun e w'=>e = .returned (.string r) ∧ Drawn0 w w':=by
 have H : (if (Int.tmod a0 10) = 0 then (some (⟨#[48,49,50,51,52,53,54,55,56,57,97,98,99,100,101,102]⟩ : ByteArray)) else (if (Int.tmod a0 10) = 1 then (some (⟨#[101,97,52,56,57,102,100,54,49,99,48,50,98,55,53,51]⟩ : ByteArray)) else (if (Int.tmod a0 10) = 2 then (some (⟨#[98,56,99,48,53,50,102,100,97,101,51,54,55,49,57,52]⟩ : ByteArray)) else (if (Int.tmod a0 10) = 3 then (some (⟨#[55,57,51,49,100,99,98,101,50,54,53,97,52,48,102,56]⟩ : ByteArray)) else (if (Int.tmod a0 10) = 4 then (some (⟨#[57,48,53,55,50,52,97,102,101,49,98,99,54,56,51,100]⟩ : ByteArray)) else (if (Int.tmod a0 10) = 5 then (some (⟨#[50,99,54,97,48,98,56,51,52,100,55,53,102,101,49,57]⟩ : ByteArray)) else (if (Int.tmod a0 10) = 6 then (some (⟨#[99,53,49,102,101,100,52,97,48,55,54,51,57,50,56,98]⟩ : ByteArray)) else (if (Int.tmod a0 10) = 7 then (some (⟨#[100,98,55,101,99,49,51,57,53,48,102,52,56,54,50,97]⟩ : ByteArray)) else (if (Int.tmod a0 10) = 8 then (some (⟨#[54,102,101,57,98,51,48,56,99,50,100,55,49,52,97,53]⟩ : ByteArray)) else (some (⟨#[97,50,56,52,55,54,49,53,102,98,57,101,51,99,100,48]⟩ : ByteArray))))))))))) = some r:=h;clear h
 by_cases c2 : (Int.tmod a0 10) = 0
 ·rw [if_pos c2] at H;have c2b0 : ((Int.tmod a0 10) == 0) = true:=beq_iff_eq.mpr c2;have c2b1 : ((Int.tmod a0 10) != 0) = false:=bne_eq_false_iff_eq.mpr c2;clear c2;obtain rfl:=Option.some.inj H;go_enter Tryd.func53,Tryd.ntmps53
  go_wp2
  go_ret
  exact ⟨by first | rfl | (simp;done) | (simp [*];done),by repeat (first | exact Drawn0.refl _ | apply Drawn0.step)⟩
 rw [if_neg c2] at H;have c2b0 : ((Int.tmod a0 10) == 0) = false:=beq_eq_false_iff_ne.mpr c2;have c2b1 : ((Int.tmod a0 10) != 0) = true:=bne_iff_ne.mpr c2
 by_cases c3 : (Int.tmod a0 10) = 1
 ·rw [if_pos c3] at H;have c3b0 : ((Int.tmod a0 10) == 1) = true:=beq_iff_eq.mpr c3;have c3b1 : ((Int.tmod a0 10) != 1) = false:=bne_eq_false_iff_eq.mpr c3;clear c3;obtain rfl:=Option.some.inj H;go_enter Tryd.func53,Tryd.ntmps53
  go_wp2
  go_ret
  exact ⟨by first | rfl | (simp;done) | (simp [*];done),by repeat (first | exact Drawn0.refl _ | apply Drawn0.step)⟩
 rw [if_neg c3] at H;have c3b0 : ((Int.tmod a0 10) == 1) = false:=beq_eq_false_iff_ne.mpr c3;have c3b1 : ((Int.tmod a0 10) != 1) = true:=bne_iff_ne.mpr c3
 by_cases c4 : (Int.tmod a0 10) = 2
 ·rw [if_pos c4] at H;have c4b0 : ((Int.tmod a0 10) == 2) = true:=beq_iff_eq.mpr c4;have c4b1 : ((Int.tmod a0 10) != 2) = false:=bne_eq_false_iff_eq.mpr c4;clear c4;obtain rfl:=Option.some.inj H;go_enter Tryd.func53,Tryd.ntmps53
  go_wp2
  go_ret
  exact ⟨by first | rfl | (simp;done) | (simp [*];done),by repeat (first | exact Drawn0.refl _ | apply Drawn0.step)⟩
 rw [if_neg c4] at H;have c4b0 : ((Int.tmod a0 10) == 2) = false:=beq_eq_false_iff_ne.mpr c4;have c4b1 : ((Int.tmod a0 10) != 2) = true:=bne_iff_ne.mpr c4
 by_cases c5 : (Int.tmod a0 10) = 3
 ·rw [if_pos c5] at H;have c5b0 : ((Int.tmod a0 10) == 3) = true:=beq_iff_eq.mpr c5;have c5b1 : ((Int.tmod a0 10) != 3) = false:=bne_eq_false_iff_eq.mpr c5;clear c5;obtain rfl:=Option.some.inj H;go_enter Tryd.func53,Tryd.ntmps53
  go_wp2
  go_ret
  exact ⟨by first | rfl | (simp;done) | (simp [*];done),by repeat (first | exact Drawn0.refl _ | apply Drawn0.step)⟩
 rw [if_neg c5] at H;have c5b0 : ((Int.tmod a0 10) == 3) = false:=beq_eq_false_iff_ne.mpr c5;have c5b1 : ((Int.tmod a0 10) != 3) = true:=bne_iff_ne.mpr c5
 by_cases c6 : (Int.tmod a0 10) = 4
 ·rw [if_pos c6] at H;have c6b0 : ((Int.tmod a0 10) == 4) = true:=beq_iff_eq.mpr c6;have c6b1 : ((Int.tmod a0 10) != 4) = false:=bne_eq_false_iff_eq.mpr c6;clear c6;obtain rfl:=Option.some.inj H;go_enter Tryd.func53,Tryd.ntmps53
  go_wp2
  go_ret
  exact ⟨by first | rfl | (simp;done) | (simp [*];done),by repeat (first | exact Drawn0.refl _ | apply Drawn0.step)⟩
 rw [if_neg c6] at H;have c6b0 : ((Int.tmod a0 10) == 4) = false:=beq_eq_false_iff_ne.mpr c6;have c6b1 : ((Int.tmod a0 10) != 4) = true:=bne_iff_ne.mpr c6
 by_cases c7 : (Int.tmod a0 10) = 5
 ·rw [if_pos c7] at H;have c7b0 : ((Int.tmod a0 10) == 5) = true:=beq_iff_eq.mpr c7;have c7b1 : ((Int.tmod a0 10) != 5) = false:=bne_eq_false_iff_eq.mpr c7;clear c7;obtain rfl:=Option.some.inj H;go_enter Tryd.func53,Tryd.ntmps53
  go_wp2
  go_ret
  exact ⟨by first | rfl | (simp;done) | (simp [*];done),by repeat (first | exact Drawn0.refl _ | apply Drawn0.step)⟩
 rw [if_neg c7] at H;have c7b0 : ((Int.tmod a0 10) == 5) = false:=beq_eq_false_iff_ne.mpr c7;have c7b1 : ((Int.tmod a0 10) != 5) = true:=bne_iff_ne.mpr c7
 by_cases c8 : (Int.tmod a0 10) = 6
 ·rw [if_pos c8] at H;have c8b0 : ((Int.tmod a0 10) == 6) = true:=beq_iff_eq.mpr c8;have c8b1 : ((Int.tmod a0 10) != 6) = false:=bne_eq_false_iff_eq.mpr c8;clear c8;obtain rfl:=Option.some.inj H;go_enter Tryd.func53,Tryd.ntmps53
  go_wp2
  go_ret
  exact ⟨by first | rfl | (simp;done) | (simp [*];done),by repeat (first | exact Drawn0.refl _ | apply Drawn0.step)⟩
 rw [if_neg c8] at H;have c8b0 : ((Int.tmod a0 10) == 6) = false:=beq_eq_false_iff_ne.mpr c8;have c8b1 : ((Int.tmod a0 10) != 6) = true:=bne_iff_ne.mpr c8
 by_cases c9 : (Int.tmod a0 10) = 7
 ·rw [if_pos c9] at H;have c9b0 : ((Int.tmod a0 10) == 7) = true:=beq_iff_eq.mpr c9;have c9b1 : ((Int.tmod a0 10) != 7) = false:=bne_eq_false_iff_eq.mpr c9;clear c9;obtain rfl:=Option.some.inj H;go_enter Tryd.func53,Tryd.ntmps53
  go_wp2
  go_ret
  exact ⟨by first | rfl | (simp;done) | (simp [*];done),by repeat (first | exact Drawn0.refl _ | apply Drawn0.step)⟩
 rw [if_neg c9] at H;have c9b0 : ((Int.tmod a0 10) == 7) = false:=beq_eq_false_iff_ne.mpr c9;have c9b1 : ((Int.tmod a0 10) != 7) = true:=bne_iff_ne.mpr c9
 by_cases c10 : (Int.tmod a0 10) = 8
 rotate_left
 ·rw [if_neg c10] at H;have c10b0 : ((Int.tmod a0 10) == 8) = false:=beq_eq_false_iff_ne.mpr c10;have c10b1 : ((Int.tmod a0 10) != 8) = true:=bne_iff_ne.mpr c10;obtain rfl:=Option.some.inj H;go_enter Tryd.func53,Tryd.ntmps53
  go_wp2
  go_ret
  exact ⟨by first | rfl | (simp;done) | (simp [*];done),by repeat (first | exact Drawn0.refl _ | apply Drawn0.step)⟩
 rw [if_pos c10] at H;have c10b0 : ((Int.tmod a0 10) == 8) = true:=beq_iff_eq.mpr c10;have c10b1 : ((Int.tmod a0 10) != 8) = false:=bne_eq_false_iff_eq.mpr c10;clear c10;obtain rfl:=Option.some.inj H;go_enter Tryd.func53,Tryd.ntmps53
 go_wp2
 go_ret
 exact ⟨by first | rfl | (simp;done) | (simp [*];done),by repeat (first | exact Drawn0.refl _ | apply Drawn0.step)⟩
/-! ### althingref2_turned: function 71 -/
def althingref2_turned.f (a0 : Int) (a1 : Int) : Option (Int):=if 0 ≤ a1 then (if 0 ≤ (IntKind.u64.wrap (64 - a1)) then (some (Go.bits .or .u64 (shr .u64 a0 a1) (shl .u64 a0 (IntKind.u64.wrap (64 - a1))))) else (none)) else (none)
set_option maxHeartbeats 8000000 in
set_option maxRecDepth 100000 in
theorem althingref2_turned.calls (a0 : Int) (a1 : Int) (r : Int) (w : World) (h : althingref2_turned.f a0 a1 = some r) :
 Calls Tryd.prog 71 #[.int .u64 a0,.int .u64 a1] w fun e w'=>e = .returned (.int .u64 r) ∧ Drawn0 w w':=by
 have H : (if 0 ≤ a1 then (if 0 ≤ (IntKind.u64.wrap (64 - a1)) then (some (Go.bits .or .u64 (shr .u64 a0 a1) (shl .u64 a0 (IntKind.u64.wrap (64 - a1))))) else (none)) else (none)) = some r:=h;clear h
 by_cases c3 : 0 ≤ a1
 rotate_left
 ·rw [if_neg c3] at H;exact absurd H (by simp)
 rw [if_pos c3] at H;have c3b0:=eq_true c3;have c3b1 : decide (0 ≤ a1) = true:=decide_eq_true c3;clear c3;obtain ⟨ji4,hji4⟩ : ∃ j_ : Int,(shr .u64 a0 a1) = j_:=⟨_,rfl⟩
 replace H : (if 0 ≤ (IntKind.u64.wrap (64 - a1)) then (some (Go.bits .or .u64 (ji4) (shl .u64 a0 (IntKind.u64.wrap (64 - a1))))) else (none)) = some r:=by first | (rw [hji4] at H;exact H) | (simp only [hji4] at H ⊢;exact H)
 have hji4_ : (a0 / 2 ^ min a1.toNat 64) = ji4:=hji4;have hji4z : a1 ≤ 64 → (a0 / 2 ^ a1.toNat) = ji4:=shr_small hji4;obtain ⟨ji5,hji5⟩ : ∃ j_ : Int,(IntKind.u64.wrap (64 - a1)) = j_:=⟨_,rfl⟩
 replace H : (if 0 ≤ (ji5) then (some (Go.bits .or .u64 (ji4) (shl .u64 a0 (ji5)))) else (none)) = some r:=by first | (rw [hji5] at H;exact H) | (simp only [hji5] at H ⊢;exact H)
 by_cases c6 : 0 ≤ (ji5)
 rotate_left
 ·rw [if_neg c6] at H;exact absurd H (by simp)
 rw [if_pos c6] at H;have c6b0:=eq_true c6;have c6b1 : decide (0 ≤ (ji5)) = true:=decide_eq_true c6;clear c6;obtain ⟨ji7,hji7⟩ : ∃ j_ : Int,(shl .u64 a0 (ji5)) = j_:=⟨_,rfl⟩
 replace H : (some (Go.bits .or .u64 (ji4) (ji7))) = some r:=by first | (rw [hji7] at H;exact H) | (simp only [hji7] at H ⊢;exact H)
 have hji7_ : (IntKind.u64.wrap (a0 * 2 ^ min (ji5).toNat 64)) = ji7:=hji7;have hji7z : (ji5) ≤ 64 → (IntKind.u64.wrap (a0 * 2 ^ (ji5).toNat)) = ji7:=shl_small hji7;obtain rfl:=Option.some.inj H;go_enter Tryd.func71,Tryd.ntmps71
 go_wp2
 go_ret
 exact ⟨by first | rfl | (simp;done) | (simp only [← hji4,← hji5,← hji7] <;> (first | rfl | simp)) | (simp [*];done),by repeat (first | exact Drawn0.refl _ | apply Drawn0.step)⟩
-- NOT PRINTED: function 54 (althingref2_mix)
/-! ### althingref2_digit: function 55 -/
def althingref2_digit.f (a0 : Int) : Option (Int):=if a0 ≥ 97 then (some (wrap64 ((wrap64 ((wrap64 (a0)) - 97)) + 10))) else (some (wrap64 ((wrap64 (a0)) - 48)))
set_option maxHeartbeats 8000000 in
set_option maxRecDepth 100000 in
theorem althingref2_digit.calls (a0 : Int) (r : Int) (w : World) (h : althingref2_digit.f a0 = some r) :
 Calls Tryd.prog 55 #[.int .u8 a0] w fun e w'=>e = .returned (.int .i64 r) ∧ Drawn0 w w':=by
 have H : (if a0 ≥ 97 then (some (wrap64 ((wrap64 ((wrap64 (a0)) - 97)) + 10))) else (some (wrap64 ((wrap64 (a0)) - 48)))) = some r:=h;clear h
 by_cases c2 : a0 ≥ 97
 ·rw [if_pos c2] at H;have c2b0 : decide (97 ≤ a0) = true:=decide_eq_true c2;clear c2;obtain rfl:=Option.some.inj H;go_enter Tryd.func55,Tryd.ntmps55
  go_wp2
  go_ret
  exact ⟨by first | rfl | (simp;done) | (simp [*];done),by repeat (first | exact Drawn0.refl _ | apply Drawn0.step)⟩
 rw [if_neg c2] at H;have c2b0 : decide (97 ≤ a0) = false:=decide_eq_false c2;clear c2;obtain rfl:=Option.some.inj H;go_enter Tryd.func55,Tryd.ntmps55
 go_wp2
 go_ret
 exact ⟨by first | rfl | (simp;done) | (simp [*];done),by repeat (first | exact Drawn0.refl _ | apply Drawn0.step)⟩
-- NOT PRINTED: function 32 (althingref2_block)
-- NOT PRINTED: function 20 (althingref2_Keyed)
-- NOT PRINTED: function 8 (althingref2_Sum)
-- NOT PRINTED: function 27 (api_Call_27)
-- NOT PRINTED: function 16 (code_SameCall)
-- NOT PRINTED: function 34 (code_SameExt)
-- NOT PRINTED: function 35 (code_named)
/-! ### conv_isIn: function 57 -/
def conv_isIn.f (a0 : Int) (a1 : Int) (a2 : Int) : Option (Bool):=if a0 ≥ a1 then (some (decide (a0 ≤ a2))) else (some false)
set_option maxHeartbeats 8000000 in
set_option maxRecDepth 100000 in
theorem conv_isIn.calls (a0 : Int) (a1 : Int) (a2 : Int) (r : Bool) (w : World) (h : conv_isIn.f a0 a1 a2 = some r) :
 Calls Tryd.prog 57 #[.int .i64 a0,.int .i64 a1,.int .i64 a2] w fun e w'=>e = .returned (.bool r) ∧ Drawn0 w w':=by
 have H : (if a0 ≥ a1 then (some (decide (a0 ≤ a2))) else (some false)) = some r:=h;clear h
 by_cases c4 : a0 ≥ a1
 ·rw [if_pos c4] at H;have c4b0 : decide (a1 ≤ a0) = true:=decide_eq_true c4;clear c4;obtain rfl:=Option.some.inj H;go_enter Tryd.func57,Tryd.ntmps57
  go_wp2
  go_ret
  exact ⟨by first | rfl | (simp;done) | (simp [*];done),by repeat (first | exact Drawn0.refl _ | apply Drawn0.step)⟩
 rw [if_neg c4] at H;have c4b0 : decide (a1 ≤ a0) = false:=decide_eq_false c4;clear c4;obtain rfl:=Option.some.inj H;go_enter Tryd.func57,Tryd.ntmps57
 go_wp2
 go_ret
 exact ⟨by first | rfl | (simp;done) | (simp [*];done),by repeat (first | exact Drawn0.refl _ | apply Drawn0.step)⟩
/-! ### conv_isCapital: function 56 -/
def conv_isCapital.l0 : Nat → Int → List Int → Int → Int → Option (Bool)
 | 0,_,_,_,_=>none
 | k + 1,x3,x6,x7,x8=>if x8 < x7 then (if 0 ≤ x8 then (if x8 < (x6.length : Int) then ((conv_isIn.f (rd x6 x8) 0 1073741824).bind fun t176=>(if t176 = true then (conv_isCapital.l0 k (wrap64 (x3 + (rd x6 x8))) x6 x7 (wrap64 (x8 + 1))) else (some false))) else (none)) else (none)) else (some (decide (x3 ≤ 1073741824)))
def conv_isCapital.f (k : Nat) (l0 : List Int) : Option (Bool):=conv_isCapital.l0 k 0 l0 (l0.length : Int) 0
set_option maxHeartbeats 8000000 in
set_option maxRecDepth 100000 in
theorem conv_isCapital.calls (k : Nat) (A0 : Option Addr) (c0 : Nat) (l0 : List Int) (r : Bool) (w : World) (hr0 : Kd.C (Kd.int .i64) w A0 l0.length l0) (hc0 : l0.length ≤ c0) (h : conv_isCapital.f k l0 = some r) :
 Calls Tryd.prog 56 #[.slice A0 l0.length c0] w fun e w'=>e = .returned (.bool r) ∧ Drawn0 w w':=by
 have HR0:=am hr0;have HC0:=am hc0;clear hr0 hc0;have H : (conv_isCapital.l0 k 0 l0 (l0.length : Int) 0) = some r:=h;clear h;have H':=am H;clear H;go_enter Tryd.func56,Tryd.ntmps56
 go_wp2
 go_loopg [3,8] k (fun kq v3 v8 w'=>∃ (x3_1 : Int) (x8_1 : Int),v3 = .int .i64 x3_1 ∧ v8 = .int .i64 x8_1 ∧ Aside0 (conv_isCapital.l0 kq x3_1 l0 (l0.length : Int) x8_1 = some r) ∧ Aside0 (kq ≤ k) ∧ Drawn0 w w')
 case atStart=>exact ⟨(0),(0),(by first | rfl | (simp;done) | (simp [*];done)),(by first | rfl | (simp;done) | (simp [*];done)),H',⟨Nat.le_refl _⟩,by repeat (first | exact Drawn0.refl _ | apply Drawn0.step)⟩
 case round=>
  clear H';obtain ⟨x3_1,x8_1,rfl,rfl,HA,HK1,⟨m1,rfl⟩⟩:=hrel
  cases gk with
  | zero=>exact absurd HA.out (by simp [conv_isCapital.l0])
  | succ k1=>
    have H:=HA.out;clear HA;simp only [conv_isCapital.l0] at H
    by_cases c2 : x8_1 < (l0.length : Int)
    rotate_left
    ·rw [if_neg c2] at H;have c2b0 : decide (x8_1 < (l0.length : Int)) = false:=decide_eq_false c2;clear c2;obtain rfl:=Option.some.inj H
     go_wp2
     go_ret
     exact ⟨by first | rfl | (simp;done) | (simp [*];done),by repeat (first | exact Drawn0.refl _ | apply Drawn0.step)⟩
    rw [if_pos c2] at H;have c2b0 : decide (x8_1 < (l0.length : Int)) = true:=decide_eq_true c2;clear c2
    by_cases c3 : 0 ≤ x8_1
    rotate_left
    ·rw [if_neg c3] at H;exact absurd H (by simp)
    rw [if_pos c3] at H;have c3b0 : decide (0 ≤ x8_1) = true:=decide_eq_true c3;clear c3
    by_cases c4 : x8_1 < (l0.length : Int)
    rotate_left
    ·rw [if_neg c4] at H;exact absurd H (by simp)
    rw [if_pos c4] at H;have c4b0 : decide (x8_1 < (l0.length : Int)) = true:=decide_eq_true c4;clear c4;replace H:=Option.bind_eq_some_iff.mp H;obtain ⟨t176,A50,H⟩:=H;replace H : (if t176 = true then (conv_isCapital.l0 k1 (wrap64 (x3_1 + (rd l0 x8_1))) l0 (l0.length : Int) (wrap64 (x8_1 + 1))) else (some false)) = some r:=H;have A5:=am A50;clear A50
    by_cases c6 : t176 = true
    rotate_left
    ·replace c6:=Bool.eq_false_iff.mpr c6;subst c6
     have H1 : (some false) = some r:=by rw [if_neg (show ¬ (false = true) by decide)] at H;exact H
     clear H;have H:=H1;clear H1;obtain rfl:=Option.some.inj H;have p175 : 0 ≤ (x8_1 : Int):=of_decide_eq_true (by first | (with_reducible assumption) | assumption);have q175 : x8_1 < (l0.length : Int):=of_decide_eq_true (by first | (with_reducible assumption) | assumption);obtain ⟨ad175,e175,hx175_0⟩:=Kd.at_int HR0.out x8_1 p175 q175;cases e175;replace p175:=eq_true p175;replace q175:=eq_true q175
     go_wp2_with (first | ((with_reducible refine gate_callee (f:=57) rfl ?_);refine gl (some 13) Tryd.func57 #[.int .i64 (rd l0 x8_1),.int .i64 0,.int .i64 1073741824] ?_;(with_reducible refine (conv_isIn.calls (rd l0 x8_1) 0 1073741824 false _ A5.out).mono ?_);rintro e w' ⟨rfl,⟨nd,rfl⟩⟩;refine ⟨_,rfl,?_⟩))
     go_ret
     exact ⟨by first | rfl | (simp;done) | (simp [*];done),by repeat (first | exact Drawn0.refl _ | apply Drawn0.step)⟩
    subst c6
    have H1 : (conv_isCapital.l0 k1 (wrap64 (x3_1 + (rd l0 x8_1))) l0 (l0.length : Int) (wrap64 (x8_1 + 1))) = some r:=by rw [if_pos rfl] at H;exact H
    clear H;have H:=H1;clear H1;have H':=am H;clear H;have p175 : 0 ≤ (x8_1 : Int):=of_decide_eq_true (by first | (with_reducible assumption) | assumption);have q175 : x8_1 < (l0.length : Int):=of_decide_eq_true (by first | (with_reducible assumption) | assumption);obtain ⟨ad175,e175,hx175_0⟩:=Kd.at_int HR0.out x8_1 p175 q175;cases e175;replace p175:=eq_true p175;replace q175:=eq_true q175
    go_wp2_with (first | ((with_reducible refine gate_callee (f:=57) rfl ?_);refine gl (some 13) Tryd.func57 #[.int .i64 (rd l0 x8_1),.int .i64 0,.int .i64 1073741824] ?_;(with_reducible refine (conv_isIn.calls (rd l0 x8_1) 0 1073741824 true _ A5.out).mono ?_);rintro e w' ⟨rfl,⟨nd,rfl⟩⟩;refine ⟨_,rfl,?_⟩))
    go_roundg k1
    case measure=>have:=HK1.out;omega
    case rel=>exact ⟨(wrap64 (x3_1 + (rd l0 x8_1))),(wrap64 (x8_1 + 1)),(by first | rfl | (simp;done) | (simp [*];done)),(by first | rfl | (simp;done) | (simp [*];done)),H',⟨by have:=HK1.out;omega⟩,by repeat (first | exact Drawn0.refl _ | apply Drawn0.step)⟩
/-! ### conv_Is: function 37 -/
def conv_Is.f (k : Nat) (a0_0 : Int) (a0_1 : Bool) (a0_2 : Int) (a0_3 : Int) (a0_4 : Int) (a0_5 : Int) : Option (Bool):=(conv_isCapital.f k (([a0_3,a0_4,a0_5] : List Int))).bind fun t181=>(if t181 = true then (if a0_0 = 1 then ((conv_isIn.f a0_2 0 6).bind fun t182=>(if t182 = true then (if a0_4 = 0 then (some (a0_5 == 0)) else (some false)) else (some false))) else (if a0_0 = 2 then (if a0_1 = true then (some false) else (if a0_2 = 0 then (some (a0_5 == 0)) else (some false))) else (if a0_0 = 3 then (if a0_1 = true then (some false) else (some (a0_2 == 0))) else (some false)))) else (some false))
theorem C_of3 (W : World) (B : Nat) (hB : W.heap.size = B) (a b c : Int) (t : TypeId) : Kd.C (Kd.int .i64) (W.alloc (.cells #[.int .i64 a,.int .i64 b,.int .i64 c] t)) (some ⟨B,0,none⟩) 3 [a,b,c]:=by
 subst hB
 have h : (Kd.int .i64).R t (W.alloc (.cells #[.int .i64 a,.int .i64 b,.int .i64 c] t)) W.heap.size (fun _=>True) (.slice (some ⟨W.heap.size,0,none⟩) 3 3) [a,b,c]:=
  ⟨fun _ _=>trivial,[.int .i64 a,.int .i64 b,.int .i64 c],World.ownsRow_lit (base:=W.heap.size) (e:=t) (size:=1) W #[.int .i64 a,.int .i64 b,.int .i64 c] 3 (Nat.le_refl _) (by decide) rfl,Reps.one rfl (Reps.one rfl (Reps.one rfl (Reps.none _ _)))⟩
 exact (Kd.R_reads' h).2.2
attribute [local go_sem] Oper.semAt_some
set_option maxHeartbeats 8000000 in
set_option maxRecDepth 100000 in
theorem conv_Is.calls (k : Nat) (a0_0 : Int) (a0_1 : Bool) (a0_2 : Int) (a0_3 : Int) (a0_4 : Int) (a0_5 : Int) (r : Bool) (w : World) (h : conv_Is.f k a0_0 a0_1 a0_2 a0_3 a0_4 a0_5 = some r) :
 Calls Tryd.prog 37 #[.agg #[.int .i64 a0_0,.bool a0_1,.int .i64 a0_2,.int .i64 a0_3,.int .i64 a0_4,.int .i64 a0_5]] w fun e w'=>e = .returned (.bool r) ∧ Below w.heap.size w w':=by
 unfold conv_Is.f at h
 obtain ⟨b,hb⟩ : ∃ b,conv_isCapital.f k [a0_3,a0_4,a0_5] = some b:=by
  cases hq : conv_isCapital.f k [a0_3,a0_4,a0_5] with
  | none=>rw [hq] at h;cases h
  | some b=>exact ⟨b,rfl⟩
 obtain ⟨d,hd⟩ : ∃ d,conv_isIn.f a0_2 0 6 = some d:=by
  unfold conv_isIn.f
  split
  ·exact ⟨_,rfl⟩
  ·exact ⟨_,rfl⟩
 rw [hb,hd] at h;simp only [Option.bind_some] at h;have HBC:=am hb;have HD:=am hd;have HR:=am h;clear hb hd h
 have hk : b = false ∨ (b = true ∧ ((a0_0 = 1 ∧ d = false) ∨ (a0_0 = 1 ∧ d = true ∧ a0_4 = 0) ∨ (a0_0 = 1 ∧ d = true ∧ a0_4 ≠ 0) ∨ (a0_0 = 2 ∧ a0_1 = true) ∨ (a0_0 = 2 ∧ a0_1 = false ∧ a0_2 = 0) ∨ (a0_0 = 2 ∧ a0_1 = false ∧ a0_2 ≠ 0) ∨ (a0_0 = 3 ∧ a0_1 = true) ∨ (a0_0 = 3 ∧ a0_1 = false) ∨ (a0_0 ≠ 1 ∧ a0_0 ≠ 2 ∧ a0_0 ≠ 3))):=by
  cases b <;> cases d <;> cases a0_1 <;> simp <;> omega
 rcases hk with rfl | ⟨rfl,⟨rfl,rfl⟩ | ⟨rfl,rfl,rfl⟩ | ⟨rfl,rfl,h4⟩ | ⟨rfl,rfl⟩ | ⟨rfl,rfl,rfl⟩ | ⟨rfl,rfl,h2⟩ | ⟨rfl,rfl⟩ | ⟨rfl,rfl⟩ | ⟨n1,n2,n3⟩⟩
 all_goals (
  (try have m4 : (a0_4 == 0) = false:=beq_eq_false_iff_ne.2 h4)
  (try have m2' : (a0_2 == 0) = false:=beq_eq_false_iff_ne.2 h2)
  (try have m1 : (a0_0 == 1) = false:=beq_eq_false_iff_ne.2 n1)
  (try have m2 : (a0_0 == 2) = false:=beq_eq_false_iff_ne.2 n2)
  (try have m3 : (a0_0 == 3) = false:=beq_eq_false_iff_ne.2 n3)
  go_enter Tryd.func37,Tryd.ntmps37
  go_wp2_with (first
   | (go_at_call 56;go_loud (refine (conv_isCapital.calls k (some ⟨w.heap.size + 1,0,none⟩) 3 [a0_3,_,_] _ _ (C_of3 (w.alloc _) (w.heap.size + 1) (by simp) _ _ _ _) (Nat.le_refl _) HBC.out).mono ?_;rintro e w3 ⟨rfl,⟨nd,rfl⟩⟩))
   | (go_at_call 57;refine (conv_isIn.calls a0_2 0 6 _ _ HD.out).mono ?_;rintro e w4 ⟨rfl,⟨nd2,rfl⟩⟩))
  go_ret
  refine ⟨?_,by repeat (first | exact Below.refl _ _ | apply pw_below_drewN | apply below_alloc)⟩;have hr:=HR.out
  simp_all)
-- NOT PRINTED: function 21 (code_IsExt)
end Go.Proofs.YtilckocpgififaaDoor.G
