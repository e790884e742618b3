/- ConvStands: a standard vote gains on one side alone, with all that is lent, and only an aye supports; a balance up to MaxBal, a level up to MaxLevel, what is lent up to 2^40. -/
import Derived.Test.YtdekdpompadfcaaFrame
import Derived.Test.YtdekdpompadfcaaPConvStandsx2
import Derived.Lib.SmallJoins
namespace Go.Proofs.Ytdekdpompadfcaa.LawConvStands
set_option linter.unusedSimpArgs false
set_option linter.unusedVariables false
open Go.ChangeShapes Go.WideShapes Go.ChangeAt Go.RowKit Go.Joins Go.Proofs.Ytdekdpompadfcaa.PConvStands Go.Proofs.Ytdekdpompadfcaa.Frame

theorem in_tells (a b : Int) : althinglaw5_in.f a b = some (decide (0 ≤ a ∧ a ≤ b)) := by
  unfold althinglaw5_in.f; by_cases h : 0 ≤ a <;> simp [h]
theorem known_tells : althinglaw5_known.f = some true := by decide +kernel
theorem votes_some (n l : Int) : ∃ r, conv_Votes.f n l = some r ∧ althingref5_Votes.f n l = some r := by
  unfold conv_Votes.f althingref5_Votes.f
  split <;> exact ⟨_, rfl, rfl⟩

theorem pure (a level : Int) (aye : Bool) (v c : Int) : althinglaw5_ConvStands.f 1 a level aye v c = some true := by
  unfold althinglaw5_ConvStands.f
  simp only [in_tells, Option.bind_some]
  by_cases ha : 0 ≤ a ∧ a ≤ 1073741824
  · by_cases hl : 0 ≤ level ∧ level ≤ 6
    · by_cases hv : 0 ≤ v ∧ v ≤ 1099511627776
      · by_cases hc : 0 ≤ c ∧ c ≤ 1099511627776
        · obtain ⟨r, h1, h2⟩ := votes_some a level
          cases aye <;> simp [ha, hl, hv, hc, althinglaw5_ConvStands.j0, conv_Gain.f, h1, h2, known_tells]
        · simp [ha, hl, hv, hc, althinglaw5_ConvStands.j0]
      · simp [ha, hl, hv, althinglaw5_ConvStands.j0]
    · simp [ha, hl, althinglaw5_ConvStands.j0]
  · simp [ha, althinglaw5_ConvStands.j0]

theorem cells27 : Try.prog.cellsOf 27 = 2 := by kernel_rfl

theorem walks : Walks 6 Try.f6 := by
  intro H enc W base args ds ps hval hA _ _ _
  rw [Try.params6] at hA hval
  obtain ⟨v0, v1, v2, v3, d0, d1, d2, d3, p0, p1, p2, p3, rfl, rfl, rfl, h0, h1, h2, h3⟩ := trodAll_four hA
  obtain ⟨a0, rfl, rfl, rfl, w0⟩ := open_int Try.underlying3 (hval 0 3 v0 rfl rfl) h0
  obtain ⟨a1, rfl, rfl, rfl, w1⟩ := open_int Try.underlying3 (hval 1 3 v1 rfl rfl) h1
  obtain ⟨a2, rfl, rfl, rfl⟩ := open_bool Try.underlying4 (hval 2 4 v2 rfl rfl) h2
  obtain ⟨c0, c1, y0, y1, m, rfl, rfl, rfl, hy0, hy1⟩ := open_agg2 Try.underlying27 (by kernel_rfl) cells27 (hval 3 27 v3 rfl rfl) h3
  obtain ⟨a, e0, rfl, wa⟩ := DataW.trod_int Try.underlying3 hy0
  obtain ⟨b, e1, rfl, wb⟩ := DataW.trod_int Try.underlying3 hy1
  simp at e0 e1; subst e0 e1
  exact althinglaw5_ConvStands.calls 1 a0 a1 a2 a b true W (pure a0 a1 a2 a b)

set_option maxRecDepth 100000 in
theorem rowed (os : Os) (started : os.Started) (H : Type) (enc : TypeId × Value → H) :
    ReturnsInHanded {} Try.checked os 6 .any (Rows.convStandsSpec.pre6 enc Try.prog Try.f6 Rows.convStandsRow.domain false) (Rows.convStandsSpec.post enc Try.prog Try.f6 false true false false) :=
  lifted (s := Rows.convStandsSpec) Try.func6 (by kernel_rfl) (by kernel_rfl) (by kernel_rfl) (by kernel_rfl) rfl
    (fun H ds h => by
      have h' : ds.length = 4 := h
      match ds, h' with
      | [d1, d2, d3, d4], _ => rfl)
    os started H enc
    (ChangeSpec.witness6 (enc := enc) (C := Try.checked) false ⟨#[], #[.int .i64 0, .int .i64 0, .bool false, .agg #[.int .i64 0, .int .i64 0]], []⟩ 8 (by kernel_rfl) (by kernel_rfl) (by kernel_rfl) (by kernel_rfl)) walks
theorem over : Rows.convStandsRow.holds Try.pinned (OpenSpec.ofChange Rows.convStandsSpec) :=
  OpenClaim.holds_of_wide 6 Try.f6 rfl rfl rfl rfl rfl rfl rfl ⟨rfl, rfl, rfl, rfl, rfl⟩ rfl rfl rfl rfl rfl (by kernel_rfl) Try.func6 (by kernel_rfl)
    (of_decide_eq_true (by kernel_rfl)) (by unfold Func.isWrapper; first | (rw [if_pos (by decide +kernel)]; kernel_rfl) | (rw [if_neg (by decide +kernel)]; exact ⟨rfl, rfl⟩))
    (fun os started H enc _ => rowed os started H enc)
end Go.Proofs.Ytdekdpompadfcaa.LawConvStands
namespace Go.Proofs.Ytdekdpompadfcaa
/-- The row, under a short name, for the claim. -/
theorem convStands_holds : Rows.ConvStandsSaid := LawConvStands.over
end Go.Proofs.Ytdekdpompadfcaa
