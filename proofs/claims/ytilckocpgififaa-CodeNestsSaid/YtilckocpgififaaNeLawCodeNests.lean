/- CodeNests: a batch's bytes are its head, and its calls' bytes, each a row. For every list of calls. -/
import Derived.Test.YtilckocpgififaaNeFrame
import Derived.Test.YtilckocpgififaaNePCall
import Derived.Test.YtilckocpgififaaNeArgCall
import Derived.Test.YtilckocpgififaaNeGx7
namespace Go.Proofs.Ytilckocpgififaa.LawCodeNests
set_option linter.unusedSimpArgs false
set_option linter.unusedVariables false
open Go.ChangeShapes Go.WideShapes Go.ChangeAt Go.RowKit Go.Proofs.Ytilckocpgififaa.G Go.Proofs.Ytilckocpgififaa.Frame Go.Proofs.Ytilckocpgififaa.PNum Go.Proofs.YtilckocpgififaaW.PrintWords Go.Proofs.YtilckocpgififaaW.PrintMore

theorem known_true : althinglaw7_known.f = some true := rfl
theorem okT_batch (l : List S25) (h : okT 3 ⟨5, 0, 0, l⟩ = true) : ∀ x ∈ l, okT 2 x = true := (okT_kids (f := 2) h).2
theorem enc_batch (l : List S25) (h : okT 3 ⟨5, 0, 0, l⟩ = true) : encC 3 ⟨5, 0, 0, l⟩ = numsB [5, 0, 0, (l.length : Int)] ++ rowsB (l.map (encC 3)) := by
  rw [encC]
  congr 2
  exact List.map_congr_left (fun x hx => (encC_more (okT_batch l h x hx)).symm)

theorem nests_loop (l : List S25) (h4 : l.length ≤ 4) (K : Nat) (hK : ∀ x ∈ l, ∀ k, K ≤ k → ∃ r, althinglaw7_size.f k x.f0 x.f1 x.f2 x.f3 = some r) (d : Nat) :
    ∀ (k i : Nat), i + d = l.length → d + K + 70 ≤ k → (∀ x ∈ l.take i, okT 3 x = true) → althinglaw7_CodeNests.l0 k l (numsB [5, 0, 0, (l.length : Int)] ++ rowsB ((l.take i).map (encC 3))) i = some true := by
  have hB := fun k (hk : 60 ≤ k) => encode_tells ⟨5, 0, 0, l⟩ k (by omega)
  have hI := fun k (hk : 60 ≤ k) => risCall_tells ⟨5, 0, 0, l⟩ k (by omega)
  dsimp only at hB hI
  induction d with
  | zero =>
    intro k i hi hk hok
    obtain ⟨k, rfl⟩ : ∃ q, k = q + 1 := ⟨k - 1, by omega⟩
    rw [althinglaw7_CodeNests.l0, if_neg (show ¬ (i : Int) < (l.length : Int) by omega), hB k (by omega), Option.bind_some, hI k (by omega), Option.bind_some, List.take_of_length_le (by omega)]
    by_cases h : okT 3 ⟨5, 0, 0, l⟩ = true
    · rw [if_pos h]
      try dsimp only
      try rw [if_pos h]
      rw [ if_pos rfl, if_pos (by rw [enc_batch l h]), known_true]; rfl
    · rw [if_neg h]
      try dsimp only
      try rw [if_neg h]
      rw [ if_pos rfl, known_true]; rfl
  | succ d ihd =>
    intro k i hi hk hok
    obtain ⟨k, rfl⟩ : ∃ q, k = q + 1 := ⟨k - 1, by omega⟩
    have hlt : i < l.length := by omega
    have e1 : wrap64 ((i : Int) + 1) = ((i + 1 : Nat) : Int) := by rw [wrap_in (by omega) (by omega)]; omega
    have c1 : (i : Int) < (l.length : Int) := by omega
    have c2 : (0 : Int) ≤ (i : Int) := by omega
    obtain ⟨r, hr⟩ := hK _ (List.getElem_mem hlt) k (by omega)
    rw [althinglaw7_CodeNests.l0, if_pos c1, if_pos c2, rd_natT l i hlt, hr, Option.bind_some]
    by_cases h100 : r ≥ 100
    · rw [if_pos h100]
    rw [if_neg h100, encode_tells _ k (by omega), Option.bind_some]
    by_cases h : okT 3 l[i] = true
    · rw [if_pos h]; dsimp only
      have hlen := encC_most 3 _ h
      have hsm := mostC_small (f := 3) (by omega)
      have hbs := sizeN_range ((encC 3 l[i]).length : Int)
      have hrl := rowB_length (encC 3 l[i])
      have hal : (rowsB ((l.take i).map (encC 3))).length ≤ 4 * (9 + 3816) := by
        have := rowsB_most 3816 ((l.take i).map (encC 3)) (by
          intro x hx
          obtain ⟨y, hy, rfl⟩ := List.mem_map.1 hx
          exact Nat.le_trans (encC_most 3 y (hok y hy)) hsm)
        rw [List.length_map, List.length_take] at this
        exact Nat.le_trans this (Nat.mul_le_mul_right _ (by omega))
      have hnl := numsB_length [5, 0, 0, (l.length : Int)]
      simp only [List.length_cons, List.length_nil] at hnl
      rw [if_pos rfl, refRow_tells k _ (by omega) (by omega), Option.bind_some, if_pos (by rw [List.length_append]; omega), e1]
      have hn := ihd k (i + 1) (by omega) (by omega) (by
        intro x hx
        rw [List.take_succ_eq_append_getElem hlt, List.mem_append] at hx
        rcases hx with hx | hx
        · exact hok x hx
        · rw [List.mem_singleton] at hx; rw [hx]; exact h)
      rw [List.take_succ_eq_append_getElem hlt, List.map_append, rowsB_append, ← List.append_assoc] at hn
      have hone : rowsB ([l[i]].map (encC 3)) = rowB (encC 3 l[i]) := by simp [rowsB]
      rw [hone] at hn
      exact hn
    · rw [if_neg h]; dsimp only
      have hb : ¬ okT 3 ⟨5, 0, 0, l⟩ = true := fun hb => h (okT_more (okT_batch l hb _ (List.getElem_mem hlt)))
      rw [if_neg (by omega), hB k (by omega), Option.bind_some]
      rw [if_neg hb]; dsimp only
      rw [if_pos rfl, risCall_tells _ k (by omega), Option.bind_some, if_neg h, known_true]; rfl

theorem pure (l : List S25) (hf : ∀ x ∈ l, ∃ f, Fits f x) : ∃ k, althinglaw7_CodeNests.f k l = some true := by
  obtain ⟨K, hK⟩ := sizes_some l hf
  refine ⟨K + 100, ?_⟩
  unfold althinglaw7_CodeNests.f
  by_cases h1 : (l.length : Int) < 1
  · rw [if_pos h1, althinglaw7_CodeNests.j0, if_pos rfl]
  rw [if_neg h1]
  by_cases h4 : (l.length : Int) > 4
  · rw [decide_eq_true h4, althinglaw7_CodeNests.j0, if_pos rfl]
  · rw [decide_eq_false h4, althinglaw7_CodeNests.j0, if_neg (by simp), refNums_tells _ _ (by simp) (by simp), Option.bind_some]
    have := nests_loop l (by omega) K hK l.length (K + 99) 0 (by omega) (by omega) (by simp)
    rw [List.take_zero, List.map_nil, show rowsB [] = [] from rfl, List.append_nil] at this
    exact this

set_option maxRecDepth 100000 in
theorem walks : Walks 6 Try.f6 := by
  intro H enc W base args ds ps hval hA _ _ _
  rw [Try.params6] at hA hval
  obtain ⟨v0, d0, rfl, rfl, h0⟩ := trodAll_one hA
  obtain ⟨A0, c0, l, rfl, hC, hc⟩ := ArgCall.open_calls (hval 0 23 v0 rfl rfl) h0
  obtain ⟨k, hk⟩ := pure l (fits_all rfl hC)
  exact althinglaw7_CodeNests.calls k A0 c0 l true W hC hc hk
set_option maxRecDepth 100000 in
theorem rowed (os : Os) (started : os.Started) (H : Type) (enc : TypeId × Value → H) :
    ReturnsInHanded {} Try.checked os 6 .any (Rows.codeNestsSpec.pre6 enc Try.prog Try.f6 Rows.codeNestsRow.domain false) (Rows.codeNestsSpec.post enc Try.prog Try.f6 false true false false) :=
  lifted (s := Rows.codeNestsSpec) Try.func6 (by kernel_rfl) (by kernel_rfl) (by kernel_rfl) (by kernel_rfl) rfl
    (fun H ds h => by
      have h' : ds.length = 1 := h
      match ds, h' with
      | [d1], _ => rfl)
    os started H enc
    (ChangeSpec.witness6 (enc := enc) (C := Try.checked) false ⟨#[], #[.slice none 0 0], []⟩ 8 (by kernel_rfl) (by kernel_rfl) (by kernel_rfl) (by kernel_rfl)) walks
theorem over : Rows.codeNestsRow.holds Try.pinned (OpenSpec.ofChange Rows.codeNestsSpec) :=
  OpenClaim.holds_of_wide 6 Try.f6 rfl rfl rfl rfl rfl rfl rfl ⟨rfl, rfl, rfl, rfl, rfl⟩ rfl rfl rfl rfl rfl (by kernel_rfl) Try.func6 (by kernel_rfl)
    (of_decide_eq_true (by kernel_rfl)) (by unfold Func.isWrapper; first | (rw [if_pos (by decide +kernel)]; kernel_rfl) | (rw [if_neg (by decide +kernel)]; exact ⟨rfl, rfl⟩))
    (fun os started H enc _ => rowed os started H enc)
end Go.Proofs.Ytilckocpgififaa.LawCodeNests
namespace Go.Proofs.Ytilckocpgififaa
/-- The row, under a short name, for the claim. -/
theorem codeNests_holds : Rows.CodeNestsSaid := LawCodeNests.over
end Go.Proofs.Ytilckocpgififaa

