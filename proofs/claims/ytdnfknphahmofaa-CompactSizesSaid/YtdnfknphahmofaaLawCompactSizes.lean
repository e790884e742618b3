/- CompactSizes: a number has as many bytes as the document's, a greater one no fewer, at least one and at most nine; what is put has that many. For every two numbers. -/
import Derived.Test.YtdnfknphahmofaaFrame
import Derived.Test.YtdnfknphahmofaaPKnown
import Derived.Test.YtdnfknphahmofaaGx8
namespace Go.Proofs.Ytdnfknphahmofaa.LawCompactSizes
set_option linter.unusedSimpArgs false
set_option linter.unusedVariables false
open Go.ChangeShapes Go.WideShapes Go.ChangeAt Go.RowKit Go.Proofs.Ytdnfknphahmofaa.G Go.Proofs.Ytdnfknphahmofaa.PNum Go.Proofs.Ytdnfknphahmofaa.Frame Go.Proofs.YtdnfknphahmofaaW.PrintWords Go.Proofs.YtdnfknphahmofaaW.PrintMore

theorem pure (n m : Int) : althinglaw1_CompactSizes.f 40 n m = some true := by
  have hle : mn n m ≤ mx n m := by unfold mn mx; omega
  have s1 := sizeN_range (mn n m)
  have s2 := sizeN_range (mx n m)
  have s3 := sizeN_mono hle
  have hp := put_tells 40 [] [n] (by simp) (by simp) (by simp)
  have hn : numsB [n] = numB n := by simp [numsB]
  have hl := numB_length n
  have hm := numB_length (mn n m)
  unfold althinglaw1_CompactSizes.f
  rw [size_tells 40 _ (by decide), size_tells 40 _ (by decide), size_tells 40 _ (by decide), rnum_tells 40 _ (by decide), hp, known_tells 40 (by decide)]
  simp only [Option.bind_some, hm, List.nil_append, hn, hl]
  rw [if_pos trivial, if_pos (by omega), if_pos (by omega), if_pos (by omega), if_pos trivial]

theorem walks : Walks 3 Try.f3 := by
  intro H enc W base args ds ps hval hA _ _ _
  rw [Try.params3] at hA hval
  obtain ⟨v0, v1, d0, d1, p0, p1, rfl, rfl, rfl, h0, h1⟩ := trodAll_two hA
  obtain ⟨a0, rfl, rfl, rfl, _⟩ := open_int Try.underlying3 (hval 0 3 v0 rfl rfl) h0
  obtain ⟨a1, rfl, rfl, rfl, _⟩ := open_int Try.underlying3 (hval 1 3 v1 rfl rfl) h1
  exact althinglaw1_CompactSizes.calls 40 a0 a1 true W (pure a0 a1)
set_option maxRecDepth 100000 in
theorem rowed (os : Os) (started : os.Started) (H : Type) (enc : TypeId × Value → H) :
    ReturnsInHanded {} Try.checked os 3 .any (Rows.compactSizesSpec.pre6 enc Try.prog Try.f3 Rows.compactSizesRow.domain false) (Rows.compactSizesSpec.post enc Try.prog Try.f3 false true false false) :=
  lifted (s := Rows.compactSizesSpec) Try.func3 (by kernel_rfl) (by kernel_rfl) (by kernel_rfl) (by kernel_rfl) rfl
    (fun H ds h => by
      have h' : ds.length = 2 := h
      match ds, h' with
      | [d1, d2], _ => rfl)
    os started H enc
    (ChangeSpec.witness6 (enc := enc) (C := Try.checked) false ⟨#[], #[.int .i64 0, .int .i64 0], []⟩ 8 (by kernel_rfl) (by kernel_rfl) (by kernel_rfl) (by kernel_rfl)) walks
theorem over : Rows.compactSizesRow.holds Try.pinned (OpenSpec.ofChange Rows.compactSizesSpec) :=
  OpenClaim.holds_of_wide 3 Try.f3 rfl rfl rfl rfl rfl rfl rfl ⟨rfl, rfl, rfl, rfl, rfl⟩ rfl rfl rfl rfl rfl (by kernel_rfl) Try.func3 (by kernel_rfl)
    (of_decide_eq_true (by kernel_rfl)) (by unfold Func.isWrapper; first | (rw [if_pos (by decide +kernel)]; kernel_rfl) | (rw [if_neg (by decide +kernel)]; exact ⟨rfl, rfl⟩))
    (fun os started H enc _ => rowed os started H enc)
end Go.Proofs.Ytdnfknphahmofaa.LawCompactSizes
namespace Go.Proofs.Ytdnfknphahmofaa
/-- The row, under a short name, for the claim. -/
theorem compactSizes_holds : Rows.CompactSizesSaid := LawCompactSizes.over
end Go.Proofs.Ytdnfknphahmofaa

