/- ConvKinds: votes of no kind, and those with what their kind does not name, may not be; each balance from 0 to 2^28. -/
import Derived.Test.YtdekdpompadfcaaPConvKindsx2
namespace Go.Proofs.Ytdekdpompadfcaa.Pure
open Go.RowKit Go.Proofs.Ytdekdpompadfcaa.PConvKinds Go.Proofs.YtdekdpompadfcaaW.PrintWords Go.Proofs.YtdekdpompadfcaaW.PrintLast

theorem kinds_in (a b : Int) : althinglaw5_in.f a b = some (decide (0 ≤ a ∧ a ≤ b)) := by
  unfold althinglaw5_in.f; by_cases h : 0 ≤ a <;> simp [h]
theorem kinds_known : althinglaw5_known.f = some true := by decide +kernel
theorem kinds_isIn (a l h : Int) : conv_isIn.f a l h = some (decide (l ≤ a ∧ a ≤ h)) := by
  unfold conv_isIn.f; by_cases h : l ≤ a <;> simp [h]
theorem kinds_wrap {a : Int} (h : 0 ≤ a ∧ a ≤ 4294967296) : wrap64 a = a := by unfold wrap64; omega

theorem kinds_capital (a n s : Int) (ha : 0 ≤ a ∧ a ≤ 268435456) (hn : 0 ≤ n ∧ n ≤ 268435456) (hs : 0 ≤ s ∧ s ≤ 268435456) : conv_isCapital.f 4 [a, n, s] = some true := by
  have a' : a ≤ 1073741824 := by omega
  have n' : n ≤ 1073741824 := by omega
  have s' : s ≤ 1073741824 := by omega
  have w1 : wrap64 (0 + a) = a := by rw [kinds_wrap (by omega)]; omega
  have w2 : wrap64 (a + n) = a + n := kinds_wrap (by omega)
  have w3 : wrap64 (a + n + s) = a + n + s := kinds_wrap (by omega)
  have i1 : wrap64 (0 + 1) = 1 := by decide +kernel
  have i2 : wrap64 (1 + 1) = 2 := by decide +kernel
  have i3 : wrap64 (2 + 1) = 3 := by decide +kernel
  have r0 : rd [a, n, s] 0 = a := rfl
  have r1 : rd [a, n, s] 1 = n := rfl
  have r2 : rd [a, n, s] 2 = s := rfl
  have e : a + n + s ≤ 1073741824 := by omega
  unfold conv_isCapital.f
  simp only [conv_isCapital.l0, List.length_cons, List.length_nil, kinds_isIn, Option.bind_some, i1, i2, i3, r0, r1, r2, w1, w2, w3]
  simp [ha.1, hn.1, hs.1, a', n', s', e]

theorem ConvKinds : althinglaw5_ConvKinds.Pure := by
  intro kind level a n s aye _ _ _ _ _
  refine ⟨5, ?_⟩
  unfold althinglaw5_ConvKinds.f
  simp only [kinds_in, Option.bind_some]
  by_cases ha : 0 ≤ a ∧ a ≤ 268435456
  · by_cases hn : 0 ≤ n ∧ n ≤ 268435456
    · by_cases hs : 0 ≤ s ∧ s ≤ 268435456
      · have hc := kinds_capital a n s ha hn hs
        simp only [ha, hn, hs, and_self, decide_true, if_true, Bool.not_true, althinglaw5_ConvKinds.j0, Bool.false_eq_true, if_false, conv_Is.f, hc, Option.bind_some, kinds_known, kinds_isIn]
        by_cases k1 : kind = 1
        · subst k1
          by_cases l0 : 0 ≤ level
          · by_cases l6 : level ≤ 6
            · by_cases n0 : n = 0 <;> simp [l0, l6, n0]
            · simp [l0, l6]
          · simp [l0]
        · by_cases k2 : kind = 2
          · subst k2
            by_cases l0 : level = 0 <;> by_cases s0 : s = 0 <;> cases aye <;> simp [l0, s0]
          · by_cases k3 : kind = 3
            · subst k3
              by_cases l0 : level = 0 <;> cases aye <;> simp [l0]
            · simp [k1, k2, k3]
      · simp [ha, hn, hs, althinglaw5_ConvKinds.j0]
    · simp [ha, hn, althinglaw5_ConvKinds.j0]
  · simp [ha, althinglaw5_ConvKinds.j0]

end Go.Proofs.Ytdekdpompadfcaa.Pure
