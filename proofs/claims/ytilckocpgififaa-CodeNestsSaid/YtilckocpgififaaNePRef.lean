import Derived.Test.YtilckocpgififaaNePNum
import Derived.Test.YtilckocpgififaaNeGx0
import Derived.Test.YtilckocpgififaaNeGx7
import Derived.IntWalk
/- The document's numbers as bytes (althingref1), plainly: the same as compact's. -/
namespace Go.Proofs.Ytilckocpgififaa.PNum
open Go.RowKit Go.Proofs.Ytilckocpgififaa.G Go.Proofs.YtilckocpgififaaW.PrintWords Go.Proofs.YtilckocpgififaaW.PrintMore Go.Proofs.YtilckocpgififaaW.PrintLast
set_option linter.unusedVariables false
set_option linter.unusedSimpArgs false

theorem i64_low (n : Int) (h0 : 0 ≤ n) (h1 : n < 2 ^ 63) : IntKind.i64.wrap n = n := by
  have : n < 9223372036854775808 := by have e : (2 : Int) ^ 63 = 9223372036854775808 := by decide
                                       rw [e] at h1; exact h1
  rw [i64_w]; exact wrap_in h0 (by omega)
theorem or_small (x y : Int) (i : Nat) (hx : 0 ≤ x) (hm : x % 2 ^ i = 0) (hx1 : x < 9223372036854775808) (hy : 0 ≤ y) (hy1 : y < 2 ^ i) (hy2 : y < 9223372036854775808) : Go.bits .or .i64 x y = x + y :=
  bits_join .i64 63 (by decide) i64_low i x y hx hm (by rw [show (2 : Int) ^ 63 = 9223372036854775808 from by decide]; exact hx1) hy hy1 (by rw [show (2 : Int) ^ 63 = 9223372036854775808 from by decide]; exact hy2)
theorem u64_at (i : Nat) (h : i ≤ 100) : IntKind.u64.wrap (wrap64 (8 * (i : Int))) = ((8 * i : Nat) : Int) := by
  rw [wrap_in (by omega) (by omega), IntKind.wrap_u64]; omega

/-! ### low, Num -/
theorem lowB_snoc (n : Int) (s : Nat) : lowB n (s + 1) = lowB n s ++ [n / 2 ^ (8 * s) % 256] := by
  induction s generalizing n with
  | zero => simp [lowB]
  | succ s ih =>
    have h := ih (n / 256)
    rw [lowB, h, lowB, List.cons_append]
    congr 3
    rw [Int.ediv_ediv_of_nonneg (by decide)]
    congr 2
    rw [show 8 * (s + 1) = 8 + 8 * s from by omega, Int.pow_add]
    rfl
theorem rlow_loop (n : Int) (s : Nat) (hs : s ≤ 8) (d : Nat) : ∀ (k i : Nat), i + d = s → d < k → althingref1_low.l0 k n s (lowB n i) i = some (lowB n s) := by
  induction d with
  | zero =>
    intro k i hi hk
    obtain ⟨k, rfl⟩ : ∃ q, k = q + 1 := ⟨k - 1, by omega⟩
    obtain rfl : i = s := by omega
    rw [althingref1_low.l0, if_neg (by omega)]
  | succ d ih =>
    intro k i hi hk
    obtain ⟨k, rfl⟩ : ∃ q, k = q + 1 := ⟨k - 1, by omega⟩
    have e1 : wrap64 ((i : Int) + 1) = ((i + 1 : Nat) : Int) := by rw [wrap_in (by omega) (by omega)]; omega
    have hl := lowB_length n i
    rw [althingref1_low.l0, if_pos (by omega), u64_at i (by omega), if_pos (by omega), if_pos (by omega), shr_at _ _ (by omega), e1, ← lowB_snoc]
    exact ih k (i + 1) (by omega) (by omega)
theorem rlow_tells (k : Nat) (n : Int) (s : Nat) (hs : s ≤ 8) (hk : s < k) : althingref1_low.f k n s = some (lowB n s) := rlow_loop n s hs s k 0 (by omega) hk

theorem rnum_end (k : Nat) (n : Int) (x : Nat) (h4 : 4 ≤ x) (h8 : x ≤ 8) (hk : 9 < k) :
    ((some (([(Go.bits .or .i64 (wrap64 ((wrap64 ((x : Int) - 4)) * 4)) 3) % 256] : List Int) : List Int)).bind fun y184 => ((althingref1_low.f k n (x : Int)).bind fun t187 => (if y184.length + t187.length < 140737488355328 then (some (y184 ++ t187)) else (none)))) =
      some ((4 * ((x : Int) - 4) + 3) :: lowB n x) := by
  have e1 : wrap64 ((x : Int) - 4) = (x : Int) - 4 := wrap_in (by omega) (by omega)
  have e2 : wrap64 (((x : Int) - 4) * 4) = ((x : Int) - 4) * 4 := wrap_in (by omega) (by omega)
  have e3 : Go.bits .or .i64 (((x : Int) - 4) * 4) 3 = ((x : Int) - 4) * 4 + 3 := or_small _ _ 2 (by omega) (by omega) (by omega) (by decide) (by decide) (by decide)
  have e4 : (((x : Int) - 4) * 4 + 3) % 256 = 4 * ((x : Int) - 4) + 3 := by omega
  have hl := lowB_length n x
  rw [e1, e2, e3, e4, Option.bind_some, rlow_tells k n x h8 (by omega), Option.bind_some, if_pos (by rw [hl]; simp; omega)]
  rfl
theorem rnum_step (k : Nat) (n : Int) (x : Nat) (h4 : 4 ≤ x) (hx : x < 8) (hk : 9 < k) :
    althingref1_Num.l0 (k + 1) n x = if n / 2 ^ (8 * x) > 0 then althingref1_Num.l0 k n ((x + 1 : Nat) : Int) else some ((4 * ((x : Int) - 4) + 3) :: lowB n x) := by
  have e1 : wrap64 ((x : Int) + 1) = ((x + 1 : Nat) : Int) := by rw [wrap_in (by omega) (by omega)]; omega
  rw [althingref1_Num.l0, if_pos (by omega), u64_at x (by omega), if_pos (by omega), shr_at _ _ (by omega), e1, rnum_end k n x h4 (by omega) hk]
theorem rnum_last (k : Nat) (n : Int) (hk : 9 < k) : althingref1_Num.l0 (k + 1) n ((8 : Nat) : Int) = some ((4 * (((8 : Nat) : Int) - 4) + 3) :: lowB n 8) := by
  rw [althingref1_Num.l0, if_neg (by omega)]
  exact rnum_end k n 8 (by omega) (by omega) hk
theorem rnum_great (k : Nat) (n : Int) (hk : 15 ≤ k) : althingref1_Num.l0 k n 4 = some ((4 * ((widthN n : Int) - 4) + 3) :: lowB n (widthN n)) := by
  obtain ⟨k, rfl⟩ : ∃ m, k = m + 5 := ⟨k - 5, by omega⟩
  have s4 := rnum_step (k + 4) n 4 (by omega) (by omega) (by omega)
  have s5 := rnum_step (k + 3) n 5 (by omega) (by omega) (by omega)
  have s6 := rnum_step (k + 2) n 6 (by omega) (by omega) (by omega)
  have s7 := rnum_step (k + 1) n 7 (by omega) (by omega) (by omega)
  have s8 := rnum_last k n (by omega)
  have p4 := pos_div n (2 ^ (8 * 4)) (by decide)
  have p5 := pos_div n (2 ^ (8 * 5)) (by decide)
  have p6 := pos_div n (2 ^ (8 * 6)) (by decide)
  have p7 := pos_div n (2 ^ (8 * 7)) (by decide)
  rw [show ((2 : Int) ^ (8 * 4)) = 4294967296 from by decide] at s4 p4
  rw [show ((2 : Int) ^ (8 * 5)) = 1099511627776 from by decide] at s5 p5
  rw [show ((2 : Int) ^ (8 * 6)) = 281474976710656 from by decide] at s6 p6
  rw [show ((2 : Int) ^ (8 * 7)) = 72057594037927936 from by decide] at s7 p7
  unfold widthN
  refine Eq.trans s4 ?_
  by_cases h4 : n < 4294967296
  · rw [if_neg (by rw [p4]; omega), if_pos h4]
  · rw [if_pos (by rw [p4]; omega), if_neg h4]
    refine Eq.trans s5 ?_
    by_cases h5 : n < 1099511627776
    · rw [if_neg (by rw [p5]; omega), if_pos h5]
    · rw [if_pos (by rw [p5]; omega), if_neg h5]
      refine Eq.trans s6 ?_
      by_cases h6 : n < 281474976710656
      · rw [if_neg (by rw [p6]; omega), if_pos h6]
      · rw [if_pos (by rw [p6]; omega), if_neg h6]
        refine Eq.trans s7 ?_
        by_cases h7 : n < 72057594037927936
        · rw [if_neg (by rw [p7]; omega), if_pos h7]
        · rw [if_pos (by rw [p7]; omega), if_neg h7]
          exact s8

theorem rnum_tells (k : Nat) (n : Int) (hk : 15 ≤ k) : althingref1_Num.f k n = some (numB n) := by
  have hb := heldN_bound n
  have hh : mn (mx n 0) 4611686018427387904 = heldN n := by rw [mx_eq, mn_eq]; rfl
  unfold althingref1_Num.f numB
  rw [hh]
  by_cases h1 : heldN n < 64
  · rw [if_pos h1, if_pos h1, wrap_in (by omega) (by omega)]
    have h := rlow_tells k (heldN n * 4) 1 (by omega) (by omega)
    rw [show (((1 : Nat)) : Int) = 1 from rfl] at h
    rw [h, Option.bind_some, Int.mul_comm]
  · rw [if_neg h1, if_neg h1]
    by_cases h2 : heldN n < 16384
    · rw [if_pos h2, if_pos h2, wrap_in (by omega) (by omega), or_small _ _ 1 (by omega) (by omega) (by omega) (by decide) (by decide) (by decide)]
      have h := rlow_tells k (heldN n * 4 + 1) 2 (by omega) (by omega)
      rw [show (((2 : Nat)) : Int) = 2 from rfl] at h
      rw [h, Option.bind_some, Int.mul_comm]
    · rw [if_neg h2, if_neg h2]
      by_cases h3 : heldN n < 1073741824
      · rw [if_pos h3, if_pos h3, wrap_in (by omega) (by omega), or_small _ _ 2 (by omega) (by omega) (by omega) (by decide) (by decide) (by decide)]
        have h := rlow_tells k (heldN n * 4 + 2) 4 (by omega) (by omega)
        rw [show (((4 : Nat)) : Int) = 4 from rfl] at h
        rw [h, Option.bind_some, Int.mul_comm]
      · rw [if_neg h3, if_neg h3]
        exact rnum_great k _ hk

/-! ### Take -/

end Go.Proofs.Ytilckocpgififaa.PNum
