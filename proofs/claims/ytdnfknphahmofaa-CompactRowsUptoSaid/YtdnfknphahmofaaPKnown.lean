import Derived.Test.YtdnfknphahmofaaPRef
import Derived.Test.YtdnfknphahmofaaGx3
/- compact.Take, plainly; what the laws know of two numbers. -/
namespace Go.Proofs.Ytdnfknphahmofaa.PNum
open Go.RowKit Go.Proofs.Ytdnfknphahmofaa.G Go.Proofs.YtdnfknphahmofaaW.PrintWords Go.Proofs.YtdnfknphahmofaaW.PrintMore Go.Proofs.YtdnfknphahmofaaW.PrintLast
set_option linter.unusedVariables false
set_option linter.unusedSimpArgs false

theorem ctake_fin (k : Nat) (hk : 5 ≤ k) (v : Int) (x : Nat) :
    (if v < 0 then some ((0 : Int), (0 : Int), false) else if v > 4611686018427387904 then some (0, 0, false) else (compact_Size.f k v).bind fun t => if t = (x : Int) then some (v, (x : Int), true) else some (0, 0, false)) =
      some (outT (if v < 0 ∨ 4611686018427387904 < v ∨ sizeN v ≠ x then none else some (v, x))) := by
  by_cases h1 : v < 0
  · rw [if_pos h1, if_pos (Or.inl h1)]; rfl
  · rw [if_neg h1]
    by_cases h2 : 4611686018427387904 < v
    · rw [if_pos h2, if_pos (Or.inr (Or.inl h2))]; rfl
    · rw [if_neg h2, size_tells k v hk, Option.bind_some]
      by_cases h3 : sizeN v = x
      · rw [if_pos (by rw [h3]), if_neg (by simp [h1, h2, h3])]; rfl
      · rw [if_neg (by intro h; exact h3 (by omega)), if_pos (Or.inr (Or.inr h3))]; rfl

theorem small_val {l : List Int} (hl : IsBytes l) (s : Nat) (hs : s ≤ 4) : 0 ≤ valB (l.take s) ∧ valB (l.take s) < 4294967296 := by
  have hb := valB_bound _ (hl.take s)
  have hp : (256 : Int) ^ (l.take s).length ≤ 4294967296 := by
    have hx : (l.take s).length ≤ 4 := Nat.le_trans (List.length_take_le s _) hs
    generalize (l.take s).length = q at hx
    have hq : q = 0 ∨ q = 1 ∨ q = 2 ∨ q = 3 ∨ q = 4 := by omega
    rcases hq with x | x | x | x | x <;> rw [x] <;> decide
  exact ⟨hb.1, by have := hb.2; omega⟩

theorem ctake_tells (k : Nat) (l : List Int) (hl : IsBytes l) (hk : 10 ≤ k) : compact_Take.f k l = some (outT (takeN l)) := by
  cases l with
  | nil => rfl
  | cons c r =>
    have hc := hl c (by simp)
    have hr0 : rd (c :: r) 0 = c := rfl
    have t4 : Int.tmod c 4 = c % 4 := Int.tmod_eq_emod_of_nonneg hc.1
    have d4 : Int.tdiv c 4 = c / 4 := Int.tdiv_eq_ediv_of_nonneg hc.1
    have key : ∀ (s : Nat), 1 ≤ s → s ≤ 100 → s = headSize c → (c % 4 ≠ 3 → s ≤ 4) → compact_Take.j0 k (c :: r) s = some (outT (takeN (c :: r))) := by
      intro s h1 h2 h4 h5
      obtain ⟨k, rfl⟩ : ∃ q, k = q + 2 := ⟨k - 2, by omega⟩
      have hlen1 : (0 : Int) < (((c :: r).length : Nat) : Int) := by simp
      have s0 : (0 : Int) ≤ (s : Int) := by omega
      have s1 : (1 : Int) ≤ (s : Int) := by omega
      have stn : ((s : Int)).toNat = s := by omega
      show _ = some (outT (takeAt c (c :: r)))
      unfold takeAt
      rw [compact_Take.j0, ← h4]
      by_cases ha : 9 < s
      · rw [if_pos (by omega), compact_Take.j1, if_pos rfl, if_pos (Or.inl ha)]; rfl
      · rw [if_neg (by omega), compact_Take.j1]
        by_cases hb : (c :: r).length < s
        · rw [if_pos (by rw [decide_eq_true_eq]; omega), if_pos (Or.inr hb)]; rfl
        · have sl : (s : Int) ≤ (((c :: r).length : Nat) : Int) := by omega
          have hn : ¬ (9 < s ∨ (c :: r).length < s) := by omega
          have hd : ¬ (decide ((s : Int) > (((c :: r).length : Nat) : Int)) = true) := by rw [decide_eq_true_eq]; omega
          rw [if_neg hd, if_neg hn, if_pos hlen1, hr0, t4]
          by_cases c3 : c % 4 = 3
          · have hv : valAt c (c :: r) = wrap64 (valB (((c :: r).take s).drop 1)) := by unfold valAt; rw [if_pos c3, ← h4]
            rw [if_pos c3, if_pos s1, if_pos sl, stn, number_tells, Option.bind_some, hv]
            exact ctake_fin k (by omega) _ s
          · have hq := small_val hl s (h5 c3)
            have hw : wrap64 (valB ((c :: r).take s)) = valB ((c :: r).take s) := wrap_in hq.1 (by omega)
            have hd4 : Int.tdiv (valB ((c :: r).take s)) 4 = valB ((c :: r).take s) / 4 := Int.tdiv_eq_ediv_of_nonneg hq.1
            have hw4 : wrap64 (valB ((c :: r).take s) / 4) = valB ((c :: r).take s) / 4 := wrap_in (by omega) (by omega)
            have hv : valAt c (c :: r) = valB ((c :: r).take s) / 4 := by unfold valAt; rw [if_neg c3, ← h4]
            rw [if_neg c3, if_pos s0, if_pos sl, stn, number_tells, Option.bind_some, hv, hw, hd4, hw4]
            exact ctake_fin k (by omega) _ s
    have hlen0 : ¬ (((c :: r).length : Nat) : Int) = 0 := by simp; omega
    have hlen1 : (0 : Int) < (((c :: r).length : Nat) : Int) := by simp
    unfold compact_Take.f
    rw [if_neg hlen0, if_pos hlen1, hr0, t4, d4]
    by_cases c0 : c % 4 = 0
    · rw [if_pos c0]
      exact key 1 (by omega) (by omega) (by unfold headSize; rw [if_pos c0]) (by omega)
    · rw [if_neg c0]
      by_cases c1 : c % 4 = 1
      · rw [if_pos c1]
        exact key 2 (by omega) (by omega) (by unfold headSize; rw [if_neg c0, if_pos c1]) (by omega)
      · rw [if_neg c1]
        by_cases c2 : c % 4 = 2
        · rw [if_pos c2]
          exact key 4 (by omega) (by omega) (by unfold headSize; rw [if_neg c0, if_neg c1, if_pos c2]) (by omega)
        · rw [if_neg c2]
          have e : (5 : Int) + c / 4 % 256 = ((5 + (c / 4).toNat : Nat) : Int) := by omega
          rw [e]
          exact key (5 + (c / 4).toNat) (by omega) (by omega) (by unfold headSize; rw [if_neg c0, if_neg c1, if_neg c2]) (by omega)

theorem known_tells (k : Nat) (hk : 20 ≤ k) : althinglaw1_known.f k = some true := by
  unfold althinglaw1_known.f
  have hp := put_tells k [] [69] (by simp) (by simp; omega) (by simp)
  have hn : numsB [69] = [21, 1] := by decide +kernel
  have hb : IsBytes [3, 0, 0, 0, 64] := by intro c h; simp at h; omega
  have ht := ctake_tells k [3, 0, 0, 0, 64] hb (by omega)
  have hv : takeN [3, 0, 0, 0, 64] = some (1073741824, 5) := by decide +kernel
  rw [hp, hn, ht, hv]
  have hs : (strOfNums ([] ++ [21, 1])).toList = ([21, 1] : List UInt8) := by simp [strOfNums]
  simp only [Option.bind_some, outT]
  rw [if_pos hs]
  rfl

end Go.Proofs.Ytdnfknphahmofaa.PNum
