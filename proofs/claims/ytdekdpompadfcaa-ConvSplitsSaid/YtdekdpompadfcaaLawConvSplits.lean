/- ConvSplits: split and abstaining votes take no lent weight, the abstaining part supports; balances up to 2^28, what is lent up to 2^40. -/
import Derived.Test.YtdekdpompadfcaaFrame
import Derived.Test.YtdekdpompadfcaaPConvSplitsx2
import Derived.Lib.SmallJoins
namespace Go.Proofs.Ytdekdpompadfcaa.LawConvSplits
set_option linter.unusedSimpArgs false
set_option linter.unusedVariables false
open Go.ChangeShapes Go.WideShapes Go.ChangeAt Go.RowKit Go.Joins Go.Proofs.Ytdekdpompadfcaa.PConvSplits Go.Proofs.Ytdekdpompadfcaa.Frame

theorem in_tells (a b : Int) : althinglaw5_in.f a b = some (decide (0 ≤ a ∧ a ≤ b)) := by
  unfold althinglaw5_in.f; by_cases h : 0 ≤ a <;> simp [h]
theorem known_tells : althinglaw5_known.f = some true := by decide +kernel
theorem votes0 (n : Int) : conv_Votes.f n 0 = some (wrap64 (Int.tdiv n 10)) := rfl
theorem wrap_in {a : Int} (h : 0 ≤ a ∧ a ≤ 4294967296) : wrap64 a = a := by unfold wrap64; omega

theorem pure (a n s v c : Int) : althinglaw5_ConvSplits.f 1 a n s v c = some true := by
  unfold althinglaw5_ConvSplits.f
  simp only [in_tells, Option.bind_some]
  by_cases ha : 0 ≤ a ∧ a ≤ 268435456
  · by_cases hl : 0 ≤ n ∧ n ≤ 268435456
    · by_cases hs : 0 ≤ s ∧ s ≤ 268435456
      · by_cases hv : 0 ≤ v ∧ v ≤ 1099511627776
        · by_cases hc : 0 ≤ c ∧ c ≤ 1099511627776
          · have e : wrap64 (a + 0) = a := by rw [wrap_in (by omega)]; omega
            have e' : wrap64 a = a := wrap_in (by omega)
            simp [ha, hl, hs, hv, hc, althinglaw5_ConvSplits.j0, conv_Gain.f, conv_Capital.f, votes0, e', known_tells]
          · simp [ha, hl, hs, hv, hc, althinglaw5_ConvSplits.j0]
        · simp [ha, hl, hs, hv, althinglaw5_ConvSplits.j0]
      · simp [ha, hl, hs, althinglaw5_ConvSplits.j0]
    · simp [ha, hl, althinglaw5_ConvSplits.j0]
  · simp [ha, althinglaw5_ConvSplits.j0]

theorem cells27 : Try.prog.cellsOf 27 = 2 := by kernel_rfl

theorem walks : Walks 8 Try.f8 := by
  intro H enc W base args ds ps hval hA _ _ _
  rw [Try.params8] at hA hval
  obtain ⟨v0, v1, v2, v3, d0, d1, d2, d3, p0, p1, p2, p3, rfl, rfl, rfl, h0, h1, h2, h3⟩ := trodAll_four hA
  obtain ⟨a0, rfl, rfl, rfl, w0⟩ := open_int Try.underlying3 (hval 0 3 v0 rfl rfl) h0
  obtain ⟨a1, rfl, rfl, rfl, w1⟩ := open_int Try.underlying3 (hval 1 3 v1 rfl rfl) h1
  obtain ⟨a2, rfl, rfl, rfl, w2⟩ := open_int Try.underlying3 (hval 2 3 v2 rfl rfl) h2
  obtain ⟨c0, c1, y0, y1, m, rfl, rfl, rfl, hy0, hy1⟩ := open_agg2 Try.underlying27 (by kernel_rfl) cells27 (hval 3 27 v3 rfl rfl) h3
  obtain ⟨a, e0, rfl, wa⟩ := DataW.trod_int Try.underlying3 hy0
  obtain ⟨b, e1, rfl, wb⟩ := DataW.trod_int Try.underlying3 hy1
  simp at e0 e1; subst e0 e1
  exact althinglaw5_ConvSplits.calls 1 a0 a1 a2 a b true W (pure a0 a1 a2 a b)

set_option maxRecDepth 100000 in
theorem rowed (os : Os) (started : os.Started) (H : Type) (enc : TypeId × Value → H) :
    ReturnsInHanded {} Try.checked os 8 .any (Rows.convSplitsSpec.pre6 enc Try.prog Try.f8 Rows.convSplitsRow.domain false) (Rows.convSplitsSpec.post enc Try.prog Try.f8 false true false false) :=
  lifted (s := Rows.convSplitsSpec) Try.func8 (by kernel_rfl) (by kernel_rfl) (by kernel_rfl) (by kernel_rfl) rfl
    (fun H ds h => by
      have h' : ds.length = 4 := h
      match ds, h' with
      | [d1, d2, d3, d4], _ => rfl)
    os started H enc
    (ChangeSpec.witness6 (enc := enc) (C := Try.checked) false ⟨#[], #[.int .i64 0, .int .i64 0, .int .i64 0, .agg #[.int .i64 0, .int .i64 0]], []⟩ 8 (by kernel_rfl) (by kernel_rfl) (by kernel_rfl) (by kernel_rfl)) walks
theorem over : Rows.convSplitsRow.holds Try.pinned (OpenSpec.ofChange Rows.convSplitsSpec) :=
  OpenClaim.holds_of_wide 8 Try.f8 rfl rfl rfl rfl rfl rfl rfl ⟨rfl, rfl, rfl, rfl, rfl⟩ rfl rfl rfl rfl rfl (by kernel_rfl) Try.func8 (by kernel_rfl)
    (of_decide_eq_true (by kernel_rfl)) (by unfold Func.isWrapper; first | (rw [if_pos (by decide +kernel)]; kernel_rfl) | (rw [if_neg (by decide +kernel)]; exact ⟨rfl, rfl⟩))
    (fun os started H enc _ => rowed os started H enc)
end Go.Proofs.Ytdekdpompadfcaa.LawConvSplits
namespace Go.Proofs.Ytdekdpompadfcaa
/-- The row, under a short name, for the claim. -/
theorem convSplits_holds : Rows.ConvSplitsSaid := LawConvSplits.over
end Go.Proofs.Ytdekdpompadfcaa
