/- CompactTells: at most 100 numbers and rows of at most 3000 bytes behind at most 1000 bytes, these bytes as a number and as a row: all as the document's reference; the arguments together of bulk at most 2^20. -/
import Derived.Test.YtdnfknphahmofaaPRows
import Derived.Test.YtdnfknphahmofaaHTells
namespace Go.Proofs.Ytdnfknphahmofaa.LawCompactTells
set_option linter.unusedSimpArgs false
set_option linter.unusedVariables false
open Go.ChangeShapes Go.WideShapes Go.ChangeAt Go.RowKit Go.Proofs.Ytdnfknphahmofaa.G Go.Proofs.Ytdnfknphahmofaa.PNum Go.Proofs.Ytdnfknphahmofaa.Frame Go.Proofs.Ytdnfknphahmofaa.ArgBytes Go.Proofs.YtdnfknphahmofaaW.PrintWords Go.Proofs.YtdnfknphahmofaaW.PrintMore

theorem last (k : Nat) (p : List (List Int)) (b : List Int) (hb : IsBytes b) (hp : ∀ q ∈ p, IsBytes q) (hl : b.length ≤ 1000) (hs : rowsSize p ≤ 3000) (hk : 4000 ≤ k) :
    althinglaw1_CompactTells.l0 (k + 1) p b (strOfNums (b ++ rowsB p)) (p.length : Int) = some true := by
  have hll := length_le_rowsSize p
  have c0 : ¬ ((p.length : Int) < (p.length : Int)) := by omega
  have c1 : ([] : List Int).length + b.length < 140737488355328 := by simp; omega
  rw [althinglaw1_CompactTells.l0, if_neg c0, ctake_tells k b hb (by omega), Option.bind_some, rtake_tells k b hb (by omega) (by omega), Option.bind_some, cut_tells k b hb (by omega) (by omega), Option.bind_some,
    rcut_tells k b hb (by omega) (by omega), Option.bind_some, Option.bind_some, if_pos c1, List.nil_append, row_tells k b p (by omega) (by omega) (by omega), Option.bind_some, known_tells k (by omega)]
  simp

theorem part_fits (p : List (List Int)) (hs : rowsSize p ≤ 3000) (i : Nat) : (rowsB (p.take i)).length ≤ 27000 := by
  have h1 := rowsB_length (p.take i)
  have h2 := rowsSize_le p i
  omega
theorem mem_fits (p : List (List Int)) (q : List Int) (h : q ∈ p) : q.length ≤ rowsSize p := by
  induction p with
  | nil => cases h
  | cons x p ih =>
    rw [rowsSize_cons]
    rcases List.mem_cons.1 h with e | e
    · subst e; omega
    · have := ih e; omega
theorem row_fits (q : List Int) (h : q.length ≤ 3000) : (rowB q).length ≤ 3009 := by
  have h1 := sizeN_range (q.length : Int)
  rw [rowB_length]
  omega
theorem wrap_next {i n : Nat} (h : i < n) (hn : n ≤ 3000) : wrap64 ((i : Int) + 1) = ((i + 1 : Nat) : Int) := by rw [wrap_in (by omega) (by omega)]; omega
theorem loop (p : List (List Int)) (b : List Int) (hb : IsBytes b) (hp : ∀ q ∈ p, IsBytes q) (hl : b.length ≤ 1000) (hs : rowsSize p ≤ 3000) (d : Nat) : ∀ (k i : Nat), i + d = p.length → 4000 ≤ k →
    althinglaw1_CompactTells.l0 (k + 1 + d) p b (strOfNums (b ++ rowsB (p.take i))) i = some true := by
  induction d with
  | zero =>
    intro k i hi hk
    obtain rfl : i = p.length := by omega
    rw [List.take_of_length_le (Nat.le_refl _)]
    exact last k p b hb hp hl hs hk
  | succ d ih =>
    intro k i hi hk
    have hlt : i < p.length := by omega
    have hi' : i + 1 + d = p.length := by omega
    have c1 : (i : Int) < (p.length : Int) := by omega
    have c2 : (0 : Int) ≤ (i : Int) := by omega
    have e1 := wrap_next hlt (Nat.le_trans (length_le_rowsSize p) hs)
    have kk : 15 ≤ k + 1 + d := by omega
    have hq : p[i].length ≤ 3000 := Nat.le_trans (mem_fits p _ (List.getElem_mem hlt)) hs
    have hq' : p[i].length < 140737488355300 := Nat.lt_of_le_of_lt hq (by decide)
    have c3 : (strOfNums (b ++ rowsB (p.take i))).size + (strOfNums (rowB p[i])).size ≤ 9223372036854775807 := by
      rw [strOf_size, strOf_size, List.length_append]
      exact Nat.le_trans (Nat.add_le_add (Nat.add_le_add hl (part_fits p hs i)) (row_fits _ hq)) (by decide)
    have e2 : strOfNums (b ++ rowsB (p.take i)) ++ strOfNums (rowB p[i]) = strOfNums (b ++ rowsB (p.take (i + 1))) := by
      rw [← strOf_append, List.take_succ_eq_append_getElem hlt, rowsB_append, rowsB_cons]
      simp [rowsB]
    rw [show k + 1 + (d + 1) = (k + 1 + d) + 1 from rfl, althinglaw1_CompactTells.l0, if_pos c1, if_pos c2, rd_L p i hlt, refRow_tells _ _ hq' kk, Option.bind_some, if_pos c3, e2, e1]
    exact ih k (i + 1) hi' hk

theorem pure_at (l : List Int) (p : List (List Int)) (b : List Int) (hb : IsBytes b) (hp : ∀ q ∈ p, IsBytes q) (hs : rowsSize p ≤ 1048576) (K : Nat) (hK : p.length + 5000 ≤ K) : althinglaw1_CompactTells.f (K + 2) l p b = some true := by
  have hll := length_le_rowsSize p
  have t : ∀ k, althinglaw1_CompactTells.j0 (k + 1) l p b true = some true := fun k => by rw [althinglaw1_CompactTells.j0, if_pos rfl]
  unfold althinglaw1_CompactTells.f
  by_cases h1 : (l.length : Int) > 100
  · rw [if_pos h1]; exact t _
  · rw [if_neg h1, long_tells _ p (by omega) (by omega), Option.bind_some]
    by_cases h2 : rowsSize p > 3000
    · rw [decide_eq_true h2, if_pos rfl]; exact t _
    · rw [decide_eq_false h2, if_neg (by decide)]
      by_cases h3 : (b.length : Int) > 1000
      · rw [decide_eq_true h3]; exact t _
      · rw [decide_eq_false h3, althinglaw1_CompactTells.j0, if_neg (by decide)]
        have hn := numsB_length l
        have c1 : (strOfNums b).size + (strOfNums (numsB l)).size ≤ 9223372036854775807 := by rw [strOf_size, strOf_size]; omega
        have c2 : ([] : List Int).length + b.length < 140737488355328 := by simp; omega
        have c3 : (strOfNums (b ++ numsB l)).toList = (strOfNums b ++ strOfNums (numsB l)).toList := by rw [strOf_append]
        have k1 : l.length + 16 ≤ K + 1 := by omega
        have k2 : l.length + 11 ≤ K + 1 := by omega
        have n1 : l.length ≤ 1000000 := by omega
        have n2 : b.length + 9 * l.length + 9 < 140737488355328 := by omega
        rw [refNums_tells _ l n1 k1, Option.bind_some, if_pos c1, Option.bind_some, if_pos c2, List.nil_append, put_tells _ b l n1 k2 n2, Option.bind_some, if_pos c3]
        have h := loop p b hb hp (by omega) (by omega) p.length (K - p.length) 0 (by omega) (by omega)
        rw [show (strOfNums (b ++ rowsB (p.take 0))) = strOfNums b from by simp [rowsB]] at h
        rw [show K + 1 = K - p.length + 1 + p.length from by omega]
        exact h
theorem pure (l : List Int) (p : List (List Int)) (b : List Int) (hb : IsBytes b) (hp : ∀ q ∈ p, IsBytes q) (hs : rowsSize p ≤ 1048576) : ∃ k, althinglaw1_CompactTells.f k l p b = some true :=
  ⟨_, pure_at l p b hb hp hs (p.length + 5000) (Nat.le_refl _)⟩

theorem walks : WalksUpto 7 Try.f7 := by
  intro H enc W base args ds ps hval hA _ _ _ hbk
  rw [Try.params7] at hA hval
  obtain ⟨v0, v1, v2, d0, d1, d2, p0, p1, p2, rfl, rfl, rfl, h0, h1, h2⟩ := trodAll_three hA
  obtain ⟨A0, len0, cap0, l0, rfl, hC0, hl0, _⟩ := open_row Try.underlying32 Try.underlying3 (by kernel_rfl) (hval 0 32 v0 rfl rfl) h0
  obtain ⟨A1, len1, cap1, l1, rfl, hC1, hl1, hb1, hs1⟩ := open_rows (hval 1 40 v1 rfl rfl) h1
  obtain ⟨A2, len2, cap2, l2, rfl, hC2, hl2, hb2⟩ := open_bytes (hval 2 23 v2 rfl rfl) h2
  subst hl0 hl1 hl2
  have hs : rowsSize l1 ≤ 1048576 := by
    have := bulk_part (d := d1) (l := [d0, d1, d2]) (by simp)
    omega
  obtain ⟨k, hk⟩ := pure l0 l1 l2 hb2 hb1 hs
  exact althinglaw1_CompactTells.calls k A0 cap0 l0 A1 cap1 l1 A2 cap2 l2 true W hC0.1 hC0.2 hC1.1 hC1.2 hC2.1 hC2.2 hk
set_option maxRecDepth 100000 in
theorem rowed (os : Os) (started : os.Started) (H : Type) (enc : TypeId × Value → H) (F : Stop.Interp) :
    ReturnsInHanded {} Try.checked os 7 .any ((Rows.OpenSpec.upto Rows.compactTellsSpec).pre6 enc Try.prog Try.f7 Rows.compactTellsUptoRow.domain false) (((Rows.OpenSpec.upto Rows.compactTellsSpec).at F).post enc Try.prog Try.f7 false true false false) :=
  liftedUpto (s := Rows.compactTellsSpec) Try.func7 (by kernel_rfl) (by kernel_rfl) (by kernel_rfl) (by kernel_rfl) rfl
    (fun H ds h => by
      have h' : ds.length = 3 := h
      match ds, h' with
      | [d1, d2, d3], _ => rfl)
    os started H enc F
    (OpenSpec.witness (enc := enc) (C := Try.checked) (s := Rows.OpenSpec.upto Rows.compactTellsSpec) (k := Rows.uptoSmall) rfl false ⟨#[], #[.slice none 0 0, .slice none 0 0, .slice none 0 0], []⟩ 8 (by kernel_rfl) (by kernel_rfl) (by kernel_rfl)
      (x := ([.nil, .nil, .nil], [], [])) (by kernel_rfl) rfl (by kernel_rfl)) walks
theorem over : Rows.compactTellsUptoRow.holds Try.pinned (Rows.OpenSpec.upto Rows.compactTellsSpec) :=
  OpenClaim.holds_of_cond 7 Try.f7 rfl rfl rfl rfl rfl rfl rfl ⟨rfl, rfl, rfl, rfl, rfl⟩ rfl rfl rfl rfl rfl (by kernel_rfl) Try.func7 (by kernel_rfl)
    (of_decide_eq_true (by kernel_rfl)) (by unfold Func.isWrapper; first | (rw [if_pos (by decide +kernel)]; kernel_rfl) | (rw [if_neg (by decide +kernel)]; exact ⟨rfl, rfl⟩))
    (fun os started H enc _ F => rowed os started H enc F)
end Go.Proofs.Ytdnfknphahmofaa.LawCompactTells
namespace Go.Proofs.Ytdnfknphahmofaa
/-- The row, under a short name, for the claim. -/
theorem compactTells_holds : Rows.CompactTellsUptoSaid := LawCompactTells.over
end Go.Proofs.Ytdnfknphahmofaa

