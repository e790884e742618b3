/- ConvSums: two balances weigh together what they weigh each, but at level 0, where what is left of tens may count one more; for balances from 0 to 2^32, a level from 0 to MaxLevel. -/
import Derived.Test.YtdekdpompadfcaaPConvSumsx1
namespace Go.Proofs.Ytdekdpompadfcaa.Pure
open Go.RowKit Go.Proofs.Ytdekdpompadfcaa.PConvSums Go.Proofs.YtdekdpompadfcaaW.PrintWords Go.Proofs.YtdekdpompadfcaaW.PrintLast

theorem sums_in (a b : Int) : althinglaw5_in.f a b = some (decide (0 ≤ a ∧ a ≤ b)) := by
  unfold althinglaw5_in.f; by_cases h : 0 ≤ a <;> simp [h]

theorem sums_known : althinglaw5_known.f = some true := by decide +kernel

theorem sums_level {l : Int} (h0 : 0 ≤ l) (h : l ≤ 6) : l = 0 ∨ l = 1 ∨ l = 2 ∨ l = 3 ∨ l = 4 ∨ l = 5 ∨ l = 6 := by omega

theorem sums_votes0 {n : Int} (h : 0 ≤ n ∧ n ≤ 8589934592) : conv_Votes.f n 0 = some (n / 10) := by
  show some (wrap64 (Int.tdiv n 10)) = _
  rw [Int.tdiv_eq_ediv_of_nonneg h.1]
  congr 1; unfold wrap64; omega
theorem sums_votes (l : Int) {n : Int} (h : 0 ≤ n ∧ n ≤ 8589934592) (hl : l = 1 ∨ l = 2 ∨ l = 3 ∨ l = 4 ∨ l = 5 ∨ l = 6) : conv_Votes.f n l = some (n * l) := by
  rcases hl with rfl | rfl | rfl | rfl | rfl | rfl
  all_goals
    show some (wrap64 _) = some _
    congr 1
    unfold wrap64
    omega

theorem ConvSums : althinglaw5_ConvSums.Pure := by
  intro a b l _ _ _
  refine ⟨1, ?_⟩
  unfold althinglaw5_ConvSums.f
  simp only [sums_in, Option.bind_some]
  by_cases ha : 0 ≤ a ∧ a ≤ 4294967296
  · by_cases hb : 0 ≤ b ∧ b ≤ 4294967296
    · by_cases hl : 0 ≤ l ∧ l ≤ 6
      · have w0 : ∀ a : Int, 0 ≤ a → a ≤ 4294967296000 → wrap64 a = a := by intro a _ _; unfold wrap64; omega
        have s : wrap64 (a + b) = a + b := w0 _ (by omega) (by omega)
        rcases Int.lt_or_eq_of_le hl.1 with h0 | h0
        · have hl' : l = 1 ∨ l = 2 ∨ l = 3 ∨ l = 4 ∨ l = 5 ∨ l = 6 := by omega
          have v0 := sums_votes l (n := a) (by omega) hl'
          have v1 := sums_votes l (n := b) (by omega) hl'
          have v2 := sums_votes l (n := a + b) (by omega) hl'
          have hne : l ≠ 0 := by omega
          have e : wrap64 (a * l + b * l) = (a + b) * l := by
            rcases hl' with rfl | rfl | rfl | rfl | rfl | rfl <;> (rw [w0 _ (by omega) (by omega)]; omega)
          simp [ha, hb, hl, althinglaw5_ConvSums.j0, s, v0, v1, v2, hne, e, sums_known]
        · subst h0
          have v0 := sums_votes0 (n := a) (by omega)
          have v1 := sums_votes0 (n := b) (by omega)
          have v2 := sums_votes0 (n := a + b) (by omega)
          have e : wrap64 (a / 10 + b / 10) = a / 10 + b / 10 := w0 _ (by omega) (by omega)
          have e1 : wrap64 (a / 10 + b / 10 + 1) = a / 10 + b / 10 + 1 := w0 _ (by omega) (by omega)
          have e2 : wrap64 (Int.tdiv a 10) = a / 10 := by rw [Int.tdiv_eq_ediv_of_nonneg ha.1]; exact w0 _ (by omega) (by omega)
          have e3 : wrap64 (10 * (a / 10)) = 10 * (a / 10) := w0 _ (by omega) (by omega)
          have v3 := sums_votes0 (n := 10 * (a / 10)) (by omega)
          have e4 : 10 * (a / 10) / 10 = a / 10 := by omega
          have c1 : a / 10 + b / 10 ≤ (a + b) / 10 := by omega
          have c2 : (a + b) / 10 ≤ a / 10 + b / 10 + 1 := by omega
          simp [ha, hb, althinglaw5_ConvSums.j0, s, v0, v1, v2, e, e1, e2, e3, v3, e4, c1, c2, sums_known]
      · simp [ha, hb, hl, althinglaw5_ConvSums.j0]
    · simp [ha, hb, althinglaw5_ConvSums.j0]
  · simp [ha, althinglaw5_ConvSums.j0]

end Go.Proofs.Ytdekdpompadfcaa.Pure
