/- ConvTells: what conv.Votes and conv.Period answer is what the document's reference answers, for a number from 0 to 2^33, a level from 0 to MaxLevel, a period from 0 to 2^30. -/
import Derived.Test.YtdekdpompadfcaaPConvTellsx1
namespace Go.Proofs.Ytdekdpompadfcaa.Pure
open Go.RowKit Go.Proofs.Ytdekdpompadfcaa.PConvTells Go.Proofs.YtdekdpompadfcaaW.PrintWords Go.Proofs.YtdekdpompadfcaaW.PrintLast

theorem tells_in (a b : Int) : althinglaw5_in.f a b = some (decide (0 ≤ a ∧ a ≤ b)) := by
  unfold althinglaw5_in.f; by_cases h : 0 ≤ a <;> simp [h]

theorem tells_known : althinglaw5_known.f = some true := by decide +kernel

theorem tells_level {l : Int} (h0 : 0 ≤ l) (h : l ≤ 6) : l = 0 ∨ l = 1 ∨ l = 2 ∨ l = 3 ∨ l = 4 ∨ l = 5 ∨ l = 6 := by omega

theorem tells_one (l p : Int) (h : l ≠ 0 ∧ IntKind.u64.wrap (wrap64 (l - 1)) = wrap64 (l - 1) ∧ 0 ≤ wrap64 (l - 1)) : ∃ r, conv_Period.f l p = some r ∧ althingref5_Period.f l p = some r := by
  obtain ⟨h1, h2, h3⟩ := h
  unfold conv_Period.f althingref5_Period.f
  rw [if_neg h1, if_neg h1, h2, if_pos h3]
  exact ⟨_, rfl, rfl⟩

theorem tells_period (l p : Int) (h0 : 0 ≤ l) (h : l ≤ 6) : ∃ r, conv_Period.f l p = some r ∧ althingref5_Period.f l p = some r := by
  rcases tells_level h0 h with rfl | rfl | rfl | rfl | rfl | rfl | rfl
  · exact ⟨0, rfl, rfl⟩
  all_goals
    exact tells_one _ p (by decide +kernel)

theorem tells_votes (n l : Int) : ∃ r, conv_Votes.f n l = some r ∧ althingref5_Votes.f n l = some r := by
  unfold conv_Votes.f althingref5_Votes.f
  split <;> exact ⟨_, rfl, rfl⟩

theorem ConvTells : althinglaw5_ConvTells.Pure := by
  intro n l p _ _ _
  refine ⟨1, ?_⟩
  unfold althinglaw5_ConvTells.f
  simp only [tells_in, Option.bind_some]
  by_cases hn : 0 ≤ n ∧ n ≤ 8589934592
  · by_cases hl : 0 ≤ l ∧ l ≤ 6
    · by_cases hp : 0 ≤ p ∧ p ≤ 1073741824
      · obtain ⟨v, hv, hv'⟩ := tells_votes n l
        obtain ⟨q, hq, hq'⟩ := tells_period l p hl.1 hl.2
        simp [hn, hl, hp, althinglaw5_ConvTells.j0, hv, hv', hq, hq', tells_known]
      · simp [hn, hl, hp, althinglaw5_ConvTells.j0]
    · simp [hn, hl, althinglaw5_ConvTells.j0]
  · simp [hn, althinglaw5_ConvTells.j0]

end Go.Proofs.Ytdekdpompadfcaa.Pure
