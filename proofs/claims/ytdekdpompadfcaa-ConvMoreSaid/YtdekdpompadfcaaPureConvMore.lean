/- ConvMore: a higher level weighs no less and stays locked no shorter, twice as long for each, for a number from 0 to 2^33, a level below MaxLevel, a period from 0 to 2^30. -/
import Derived.Test.YtdekdpompadfcaaPConvMorex1
namespace Go.Proofs.Ytdekdpompadfcaa.Pure
open Go.RowKit Go.Proofs.Ytdekdpompadfcaa.PConvMore Go.Proofs.YtdekdpompadfcaaW.PrintWords Go.Proofs.YtdekdpompadfcaaW.PrintLast

theorem more_in (a b : Int) : althinglaw5_in.f a b = some (decide (0 ≤ a ∧ a ≤ b)) := by
  unfold althinglaw5_in.f; by_cases h : 0 ≤ a <;> simp [h]

theorem more_known : althinglaw5_known.f = some true := by decide +kernel

theorem more_level {l : Int} (h0 : 0 ≤ l) (h : l ≤ 5) : l = 0 ∨ l = 1 ∨ l = 2 ∨ l = 3 ∨ l = 4 ∨ l = 5 := by omega

theorem more_tenth {n : Int} (h : 0 ≤ n ∧ n ≤ 8589934592) : 0 ≤ n.tdiv 10 ∧ n.tdiv 10 ≤ n := by
  rw [Int.tdiv_eq_ediv_of_nonneg h.1]; omega

theorem more_period0 (p : Int) : conv_Period.f 0 p = some 0 := rfl
theorem more_period (l p : Int) (h : 0 ≤ p ∧ p ≤ 1073741824) (hl : l = 1 ∨ l = 2 ∨ l = 3 ∨ l = 4 ∨ l = 5 ∨ l = 6) : conv_Period.f l p = some (p * 2 ^ (l - 1).toNat) := by
  rcases hl with rfl | rfl | rfl | rfl | rfl | rfl
  all_goals
    unfold conv_Period.f
    simp [wrap64, shl, IntKind.wrap, IntKind.bits]
    omega
theorem more_votes0 {n : Int} (h : 0 ≤ n ∧ n ≤ 8589934592) : conv_Votes.f n 0 = some (n.tdiv 10) := by
  have := more_tenth h
  show some (wrap64 _) = _
  congr 1; unfold wrap64; omega
theorem more_votes (l : Int) {n : Int} (h : 0 ≤ n ∧ n ≤ 8589934592) (hl : l = 1 ∨ l = 2 ∨ l = 3 ∨ l = 4 ∨ l = 5 ∨ l = 6) : conv_Votes.f n l = some (n * l) := by
  rcases hl with rfl | rfl | rfl | rfl | rfl | rfl
  all_goals
    show some (wrap64 _) = some _
    congr 1
    unfold wrap64
    omega

theorem ConvMore : althinglaw5_ConvMore.Pure := by
  intro n l p _ _ hwp
  refine ⟨2, ?_⟩
  unfold althinglaw5_ConvMore.f
  simp only [more_in, Option.bind_some]
  by_cases hn : 0 ≤ n ∧ n ≤ 8589934592
  · by_cases hl : 0 ≤ l ∧ l ≤ 5
    · by_cases hp : 0 ≤ p ∧ p ≤ 1073741824
      · have ht := more_tenth hn
        have q1 := more_period 1 p hp (by decide)
        have w0 : ∀ a : Int, 0 ≤ a → a ≤ 4294967296000 → wrap64 a = a := by intro a _ _; unfold wrap64; omega
        have e1 : wrap64 1 = 1 := by decide +kernel
        have e2 : wrap64 2 = 2 := by decide +kernel
        have e3 : wrap64 3 = 3 := by decide +kernel
        have e4 : wrap64 4 = 4 := by decide +kernel
        have e5 : wrap64 5 = 5 := by decide +kernel
        have e6 : wrap64 6 = 6 := by decide +kernel
        rcases more_level hl.1 hl.2 with rfl | rfl | rfl | rfl | rfl | rfl
        · have v0 := more_votes0 hn
          have v1 := more_votes 1 hn (by decide)
          simp at v1 q1
          have hle : n.tdiv 10 ≤ n := by omega
          simp [hn, hp, althinglaw5_ConvMore.j0, althinglaw5_ConvMore.j1, v0, v1, q1, more_period0, more_known, hle, e1]
        · have v0 := more_votes 1 hn (by decide)
          have v1 := more_votes 2 hn (by decide)
          have p1 := more_period 2 p hp (by decide)
          simp at v0 v1 q1 p1
          have b1 : wrap64 (2 * p) = p * 2 := by rw [w0 _ (by omega) (by omega)]; omega
          have b2 : wrap64 (n * 2 - n) = n := by rw [w0 _ (by omega) (by omega)]; omega
          have c1 : n ≤ n * 2 := by omega
          have c2 : p ≤ p * 2 := by omega
          simp [hn, hp, althinglaw5_ConvMore.j0, althinglaw5_ConvMore.j1, v0, v1, q1, p1, more_period0, more_known, e2, b1, b2, c1, c2]
        · have v0 := more_votes 2 hn (by decide)
          have v1 := more_votes 3 hn (by decide)
          have p0 := more_period 2 p hp (by decide)
          have p1 := more_period 3 p hp (by decide)
          simp at v0 v1 q1 p0 p1
          have b1 : wrap64 (2 * (p * 2)) = p * 4 := by rw [w0 _ (by omega) (by omega)]; omega
          have b2 : wrap64 (n * 3 - n * 2) = n := by rw [w0 _ (by omega) (by omega)]; omega
          have c1 : n * 2 ≤ n * 3 := by omega
          have c2 : p * 2 ≤ p * 4 := by omega
          simp [hn, hp, althinglaw5_ConvMore.j0, althinglaw5_ConvMore.j1, v0, v1, q1, p0, p1, more_period0, more_known, e3, b1, b2, c1, c2]
        · have v0 := more_votes 3 hn (by decide)
          have v1 := more_votes 4 hn (by decide)
          have p0 := more_period 3 p hp (by decide)
          have p1 := more_period 4 p hp (by decide)
          simp at v0 v1 q1 p0 p1
          have b1 : wrap64 (2 * (p * 4)) = p * 8 := by rw [w0 _ (by omega) (by omega)]; omega
          have b2 : wrap64 (n * 4 - n * 3) = n := by rw [w0 _ (by omega) (by omega)]; omega
          have c1 : n * 3 ≤ n * 4 := by omega
          have c2 : p * 4 ≤ p * 8 := by omega
          simp [hn, hp, althinglaw5_ConvMore.j0, althinglaw5_ConvMore.j1, v0, v1, q1, p0, p1, more_period0, more_known, e4, b1, b2, c1, c2]
        · have v0 := more_votes 4 hn (by decide)
          have v1 := more_votes 5 hn (by decide)
          have p0 := more_period 4 p hp (by decide)
          have p1 := more_period 5 p hp (by decide)
          simp at v0 v1 q1 p0 p1
          have b1 : wrap64 (2 * (p * 8)) = p * 16 := by rw [w0 _ (by omega) (by omega)]; omega
          have b2 : wrap64 (n * 5 - n * 4) = n := by rw [w0 _ (by omega) (by omega)]; omega
          have c1 : n * 4 ≤ n * 5 := by omega
          have c2 : p * 8 ≤ p * 16 := by omega
          simp [hn, hp, althinglaw5_ConvMore.j0, althinglaw5_ConvMore.j1, v0, v1, q1, p0, p1, more_period0, more_known, e5, b1, b2, c1, c2]
        · have v0 := more_votes 5 hn (by decide)
          have v1 := more_votes 6 hn (by decide)
          have p0 := more_period 5 p hp (by decide)
          have p1 := more_period 6 p hp (by decide)
          simp at v0 v1 q1 p0 p1
          have b1 : wrap64 (2 * (p * 16)) = p * 32 := by rw [w0 _ (by omega) (by omega)]; omega
          have b2 : wrap64 (n * 6 - n * 5) = n := by rw [w0 _ (by omega) (by omega)]; omega
          have c1 : n * 5 ≤ n * 6 := by omega
          have c2 : p * 16 ≤ p * 32 := by omega
          simp [hn, hp, althinglaw5_ConvMore.j0, althinglaw5_ConvMore.j1, v0, v1, q1, p0, p1, more_period0, more_known, e6, b1, b2, c1, c2]
      · simp [hn, hl, hp, althinglaw5_ConvMore.j0]
    · simp [hn, hl, althinglaw5_ConvMore.j0]
  · simp [hn, althinglaw5_ConvMore.j0]

end Go.Proofs.Ytdekdpompadfcaa.Pure
