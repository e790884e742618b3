/- CodeDeep: batches stand within one another as deep as may be, and no deeper; with one to four calls. For every two numbers. -/
import Derived.Test.YtilckocpgififaaFrame
import Derived.Test.YtilckocpgififaaGx4
namespace Go.Proofs.Ytilckocpgififaa.LawCodeDeep
set_option linter.unusedSimpArgs false
set_option linter.unusedVariables false
open Go.ChangeShapes Go.WideShapes Go.ChangeAt Go.RowKit Go.Proofs.Ytilckocpgififaa.G Go.Proofs.Ytilckocpgififaa.Frame Go.Proofs.YtilckocpgififaaW.PrintWords Go.Proofs.YtilckocpgififaaW.PrintMore

theorem pure_small : ∀ n m : Fin 7, althinglaw7_CodeDeep.f 40 (n.val : Int) (m.val : Int) = some true := by decide +kernel
theorem pure (n m : Int) : althinglaw7_CodeDeep.f 40 n m = some true := by
  have t : althinglaw7_CodeDeep.j0 40 n m true = some true := rfl
  by_cases h : 0 ≤ n ∧ n ≤ 6 ∧ 0 ≤ m ∧ m ≤ 6
  · have := pure_small ⟨n.toNat, by omega⟩ ⟨m.toNat, by omega⟩
    simp only [Int.toNat_of_nonneg h.1, Int.toNat_of_nonneg h.2.2.1] at this
    exact this
  · unfold althinglaw7_CodeDeep.f
    by_cases h1 : n < 0
    · rw [if_pos h1]; exact t
    rw [if_neg h1]
    by_cases h2 : n > 6
    · rw [if_pos h2]; exact t
    rw [if_neg h2]
    by_cases h3 : m < 0
    · rw [if_pos h3]; exact t
    rw [if_neg h3, decide_eq_true (by omega : m > 6)]
    exact t

set_option maxRecDepth 100000 in
theorem walks : Walks 3 Try.f3 := by
  intro H enc W base args ds ps hval hA _ _ _
  rw [Try.params3] at hA hval
  obtain ⟨v0, v1, d0, d1, p0, p1, rfl, rfl, rfl, h0, h1⟩ := trodAll_two hA
  obtain ⟨a0, rfl, rfl, rfl, _⟩ := open_int Try.underlying3 (hval 0 3 v0 rfl rfl) h0
  obtain ⟨a1, rfl, rfl, rfl, _⟩ := open_int Try.underlying3 (hval 1 3 v1 rfl rfl) h1
  exact althinglaw7_CodeDeep.calls 40 a0 a1 true W (pure a0 a1)
set_option maxRecDepth 100000 in
theorem rowed (os : Os) (started : os.Started) (H : Type) (enc : TypeId × Value → H) :
    ReturnsInHanded {} Try.checked os 3 .any (Rows.codeDeepSpec.pre6 enc Try.prog Try.f3 Rows.codeDeepRow.domain false) (Rows.codeDeepSpec.post enc Try.prog Try.f3 false true false false) :=
  lifted (s := Rows.codeDeepSpec) Try.func3 (by kernel_rfl) (by kernel_rfl) (by kernel_rfl) (by kernel_rfl) rfl
    (fun H ds h => by
      have h' : ds.length = 2 := h
      match ds, h' with
      | [d1, d2], _ => rfl)
    os started H enc
    (ChangeSpec.witness6 (enc := enc) (C := Try.checked) false ⟨#[], #[.int .i64 0, .int .i64 0], []⟩ 8 (by kernel_rfl) (by kernel_rfl) (by kernel_rfl) (by kernel_rfl)) walks
theorem over : Rows.codeDeepRow.holds Try.pinned (OpenSpec.ofChange Rows.codeDeepSpec) :=
  OpenClaim.holds_of_wide 3 Try.f3 rfl rfl rfl rfl rfl rfl rfl ⟨rfl, rfl, rfl, rfl, rfl⟩ rfl rfl rfl rfl rfl (by kernel_rfl) Try.func3 (by kernel_rfl)
    (of_decide_eq_true (by kernel_rfl)) (by unfold Func.isWrapper; first | (rw [if_pos (by decide +kernel)]; kernel_rfl) | (rw [if_neg (by decide +kernel)]; exact ⟨rfl, rfl⟩))
    (fun os started H enc _ => rowed os started H enc)
end Go.Proofs.Ytilckocpgififaa.LawCodeDeep
namespace Go.Proofs.Ytilckocpgififaa
/-- The row, under a short name, for the claim. -/
theorem codeDeep_holds : Rows.CodeDeepSaid := LawCodeDeep.over
end Go.Proofs.Ytilckocpgififaa

