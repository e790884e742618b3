import Derived.Test.YtdnfknphahmofaaPKnown
import Derived.Test.YtdnfknphahmofaaArgRows
import Derived.Test.YtdnfknphahmofaaHRefCut
import Derived.Test.YtdnfknphahmofaaGx12
import Derived.Test.YtdnfknphahmofaaGx7
import Derived.Test.YtdnfknphahmofaaGx9
/- Rows, plainly. -/
namespace Go.Proofs.Ytdnfknphahmofaa.PNum
open Go.RowKit Go.Proofs.Ytdnfknphahmofaa.G Go.Proofs.Ytdnfknphahmofaa.ArgBytes Go.Proofs.YtdnfknphahmofaaW.PrintWords Go.Proofs.YtdnfknphahmofaaW.PrintMore Go.Proofs.YtdnfknphahmofaaW.PrintLast
set_option linter.unusedVariables false
set_option linter.unusedSimpArgs false

theorem strOf_append (a b : List Int) : strOfNums (a ++ b) = strOfNums a ++ strOfNums b := by
  apply ByteArray.ext
  rw [ByteArray.data_append]
  simp [strOfNums]
theorem strOf_size (a : List Int) : (strOfNums a).size = a.length := by simp [strOfNums, ByteArray.size]

theorem rd_L (l : List (List Int)) (i : Nat) (h : i < l.length) : rd_L1 l (i : Int) = l[i] := by
  unfold rd_L1
  simp [List.getD_eq_getElem?_getD, h]
theorem rowsSize_take (l : List (List Int)) (i : Nat) (h : i < l.length) : rowsSize (l.take (i + 1)) = rowsSize (l.take i) + (1 + l[i].length) := by
  rw [List.take_succ_eq_append_getElem h]; simp only [rowsSize, List.map_append, List.sum_append, List.map_cons, List.map_nil, List.sum_cons, List.sum_nil, Nat.add_zero]
theorem rowsSize_le (l : List (List Int)) (i : Nat) : rowsSize (l.take i) ≤ rowsSize l := by
  have : rowsSize l = rowsSize (l.take i) + rowsSize (l.drop i) := by
    conv => lhs; rw [← List.take_append_drop i l]
    simp only [rowsSize, List.map_append, List.sum_append]
  omega
theorem length_le_rowsSize (l : List (List Int)) : l.length ≤ rowsSize l := by
  induction l with
  | nil => simp
  | cons p l ih => rw [rowsSize_cons, List.length_cons]; omega

theorem long_loop (l : List (List Int)) (hs : rowsSize l ≤ 1000000000) (d : Nat) : ∀ (k i : Nat), i + d = l.length → d < k → althinglaw1_long.l0 k l (rowsSize (l.take i) : Int) i = some (decide (rowsSize l > 3000)) := by
  induction d with
  | zero =>
    intro k i hi hk
    obtain ⟨k, rfl⟩ : ∃ q, k = q + 1 := ⟨k - 1, by omega⟩
    rw [althinglaw1_long.l0, if_neg (by omega), List.take_of_length_le (by omega)]
    congr 1
    exact decide_eq_decide.2 (by omega)
  | succ d ih =>
    intro k i hi hk
    obtain ⟨k, rfl⟩ : ∃ q, k = q + 1 := ⟨k - 1, by omega⟩
    have hlt : i < l.length := by omega
    have hll := length_le_rowsSize l
    have h1 := rowsSize_take l i hlt
    have h2 := rowsSize_le l (i + 1)
    have e1 : wrap64 ((i : Int) + 1) = ((i + 1 : Nat) : Int) := by rw [wrap_in (by omega) (by omega)]; omega
    have e2 : wrap64 ((rowsSize (l.take i) : Int) + 1) = (rowsSize (l.take i) : Int) + 1 := wrap_in (by omega) (by omega)
    have e3 : wrap64 ((rowsSize (l.take i) : Int) + 1 + (l[i].length : Int)) = (rowsSize (l.take (i + 1)) : Int) := by rw [wrap_in (by omega) (by omega)]; omega
    have c1 : (i : Int) < (l.length : Int) := by omega
    have c2 : (0 : Int) ≤ (i : Int) := by omega
    have hi' : i + 1 + d = l.length := by omega
    have hk' : d < k := by omega
    rw [althinglaw1_long.l0, if_pos c1, if_pos c2, rd_L l i hlt, e2, e3, e1]
    exact ih k (i + 1) hi' hk'
theorem long_tells (k : Nat) (l : List (List Int)) (hs : rowsSize l ≤ 1000000000) (hk : l.length < k) : althinglaw1_long.f k l = some (decide (rowsSize l > 3000)) := by
  exact long_loop l hs l.length k 0 (by omega) hk

theorem refNums_loop (ns : List Int) (d : Nat) : ∀ (k i : Nat) (b : List Int), i + d = ns.length → ns.length ≤ 1000000 → d + 16 ≤ k → b.length + 9 * d + 9 < 140737488355328 →
    althingref1_Nums.l0 k ns b i = some (b ++ numsB (ns.drop i)) := by
  induction d with
  | zero =>
    intro k i b hi hn hk hl
    obtain ⟨k, rfl⟩ : ∃ q, k = q + 1 := ⟨k - 1, by omega⟩
    rw [althingref1_Nums.l0, if_neg (by omega), List.drop_eq_nil_of_le (by omega)]
    simp [numsB]
  | succ d ih =>
    intro k i b hi hn hk hl
    obtain ⟨k, rfl⟩ : ∃ q, k = q + 1 := ⟨k - 1, by omega⟩
    have hlt : i < ns.length := by omega
    have e1 : wrap64 ((i : Int) + 1) = ((i + 1 : Nat) : Int) := by rw [wrap_in (by omega) (by omega)]; omega
    have hs := sizeN_range ns[i]
    have hz := numB_length ns[i]
    have c1 : (i : Int) < (ns.length : Int) := by omega
    have c2 : (0 : Int) ≤ (i : Int) := by omega
    have c3 : b.length + (numB ns[i]).length < 140737488355328 := by omega
    have hi' : i + 1 + d = ns.length := by omega
    have hk' : d + 16 ≤ k := by omega
    have hl' : (b ++ numB ns[i]).length + 9 * d + 9 < 140737488355328 := by rw [List.length_append]; omega
    rw [althingref1_Nums.l0, if_pos c1, if_pos c2, rd_nat ns i hlt, rnum_tells k _ (by omega), Option.bind_some, if_pos c3, e1]
    rw [ih k (i + 1) _ hi' hn hk' hl', List.drop_eq_getElem_cons hlt, numsB_cons]
    simp
theorem refNums_tells (k : Nat) (ns : List Int) (hn : ns.length ≤ 1000000) (hk : ns.length + 16 ≤ k) : althingref1_Nums.f k ns = some (numsB ns) := by
  exact refNums_loop ns ns.length k 0 [] (by omega) hn hk (by simp; omega)

def rowB (p : List Int) : List Int := numB (p.length : Int) ++ p
def rowsB (l : List (List Int)) : List Int := l.flatMap rowB
theorem rowsB_cons (p : List Int) (l : List (List Int)) : rowsB (p :: l) = rowB p ++ rowsB l := rfl
theorem rowsB_append (a b : List (List Int)) : rowsB (a ++ b) = rowsB a ++ rowsB b := by simp [rowsB]
theorem rowB_length (p : List Int) : (rowB p).length = sizeN p.length + p.length := by unfold rowB; rw [List.length_append, numB_length]
theorem rowsB_length (l : List (List Int)) : (rowsB l).length ≤ 9 * rowsSize l := by
  induction l with
  | nil => simp [rowsB]
  | cons p l ih =>
    have := sizeN_range (p.length : Int)
    rw [rowsB_cons, List.length_append, rowB_length, rowsSize_cons]; omega
theorem rowB_bytes {p : List Int} (h : IsBytes p) : IsBytes (rowB p) := (numB_bytes _).append h
theorem rowsB_bytes {l : List (List Int)} (h : ∀ p ∈ l, IsBytes p) : IsBytes (rowsB l) := by
  intro c hc
  obtain ⟨p, hp, hcp⟩ := List.mem_flatMap.1 hc
  exact rowB_bytes (h p hp) c hcp
theorem refRow_tells (k : Nat) (p : List Int) (hp : p.length < 140737488355300) (hk : 15 ≤ k) : althingref1_Row.f k p = some (rowB p) := by
  have hs := sizeN_range (p.length : Int)
  have hz := numB_length (p.length : Int)
  have c : (numB (p.length : Int)).length + p.length < 140737488355328 := by omega
  unfold althingref1_Row.f
  rw [rnum_tells k _ hk, Option.bind_some, if_pos c]
  rfl

theorem row_loop (ps : List (List Int)) (hps : rowsSize ps ≤ 1000000000) (d : Nat) : ∀ (k i : Nat) (b : List Int), i + d = ps.length → d + 11 ≤ k → b.length + 9 * rowsSize (ps.drop i) + 9 < 140737488355328 →
    compact_Row.l0 k b ps (ps.length : Int) i = some (b ++ rowsB (ps.drop i)) := by
  induction d with
  | zero =>
    intro k i b hi hk hl
    obtain ⟨k, rfl⟩ : ∃ q, k = q + 1 := ⟨k - 1, by omega⟩
    rw [compact_Row.l0, if_neg (by omega), List.drop_eq_nil_of_le (by omega)]
    simp [rowsB]
  | succ d ih =>
    intro k i b hi hk hl
    obtain ⟨k, rfl⟩ : ∃ q, k = q + 1 := ⟨k - 1, by omega⟩
    have hlt : i < ps.length := by omega
    have hll := length_le_rowsSize ps
    have e1 : wrap64 ((i : Int) + 1) = ((i + 1 : Nat) : Int) := by rw [wrap_in (by omega) (by omega)]; omega
    have hs := sizeN_range (ps[i].length : Int)
    have hz := numB_length (ps[i].length : Int)
    have hd := List.drop_eq_getElem_cons hlt
    rw [hd, rowsSize_cons] at hl
    have c1 : (i : Int) < (ps.length : Int) := by omega
    have c2 : (0 : Int) ≤ (i : Int) := by omega
    have c3 : (b ++ numB (ps[i].length : Int)).length + ps[i].length < 140737488355328 := by rw [List.length_append]; omega
    have hi' : i + 1 + d = ps.length := by omega
    have hk' : d + 11 ≤ k := by omega
    have hl' : (b ++ numB (ps[i].length : Int) ++ ps[i]).length + 9 * rowsSize (ps.drop (i + 1)) + 9 < 140737488355328 := by rw [List.length_append, List.length_append]; omega
    rw [compact_Row.l0, if_pos c1, if_pos c2, if_pos c1, rd_L ps i hlt, lays_tells k b _ (by omega) (by omega), Option.bind_some, if_pos c3, e1]
    rw [ih k (i + 1) _ hi' hk' hl', hd, rowsB_cons, rowB]
    simp
theorem row_tells (k : Nat) (b : List Int) (ps : List (List Int)) (hps : rowsSize ps ≤ 1000000000) (hk : ps.length + 11 ≤ k) (hb : b.length + 9 * rowsSize ps + 9 < 140737488355328) : compact_Row.f k b ps = some (b ++ rowsB ps) := by
  unfold compact_Row.f
  have hc : slices_Clone_byte_byte.f b = some b := by
    unfold slices_Clone_byte_byte.f
    rw [Option.bind_some, if_pos (by simp; omega)]; rfl
  rw [hc, Option.bind_some]
  exact row_loop ps hps ps.length k 0 b (by omega) hk (by simpa using hb)

/-! ### Cut -/
def cutN (b : List Int) : Option (List Int × Nat) :=
  match takeN b with
  | none => none
  | some (n, s) => if (b.length : Int) - s < n then none else some ((b.take (s + n.toNat)).drop s, s + n.toNat)
def outC : Option (List Int × Nat) → List Int × Int × Bool
  | none => ([], 0, false)
  | some (p, s) => (p, (s : Int), true)
theorem clone_tells (l : List Int) (h : l.length < 140737488355328) : slices_Clone_byte_byte.f l = some l := by
  unfold slices_Clone_byte_byte.f
  rw [Option.bind_some, if_pos (by simpa using h)]; rfl
theorem cut_tells (k : Nat) (b : List Int) (hb : IsBytes b) (hl : b.length < 140737488355328) (hk : 10 ≤ k) : compact_Cut.f k b = some (outC (cutN b)) := by
  unfold compact_Cut.f cutN
  rw [ctake_tells k b hb hk, Option.bind_some]
  cases e : takeN b with
  | none => rfl
  | some x =>
    obtain ⟨n, s⟩ := x
    obtain ⟨q0, q1, q2, q3, q4⟩ := takeN_tells hb e
    have hs := sizeN_range n
    rw [show outT (some (n, s)) = (n, (s : Int), true) from rfl]
    dsimp only
    have w1 : wrap64 ((b.length : Int) - (s : Int)) = (b.length : Int) - s := wrap_in (by omega) (by omega)
    have w2 : wrap64 ((s : Int) + n) = (s : Int) + n := wrap_in (by omega) (by omega)
    rw [if_pos rfl, w1, w2]
    by_cases h : n > (b.length : Int) - s
    · rw [if_pos h, if_pos (by omega)]; rfl
    · have c1 : (0 : Int) ≤ (s : Int) := by omega
      have c2 : (s : Int) ≤ (s : Int) + n := by omega
      have c3 : (s : Int) + n ≤ (b.length : Int) := by omega
      have t1 : ((s : Int) + n).toNat = s + n.toNat := by omega
      have t2 : ((s : Int)).toNat = s := by omega
      have hc : ((b.take (s + n.toNat)).drop s).length < 140737488355328 := by rw [List.length_drop, List.length_take]; omega
      have hneg : ¬ ((b.length : Int) - s < n) := by omega
      rw [if_neg h, if_pos c1, if_pos c2, if_pos c3, t1, t2, clone_tells _ hc, Option.bind_some, if_neg hneg]
      show some (_, _, true) = some (_, _, true)
      congr 3
      omega
theorem rcut_tells (k : Nat) (b : List Int) (hb : IsBytes b) (hl : b.length < 140737488355328) (hk : 30 ≤ k) : althingref1_Cut.f k b = some (outC (cutN b)) := by
  unfold althingref1_Cut.f cutN
  rw [rtake_tells k b hb (by omega) hk, Option.bind_some]
  cases e : takeN b with
  | none => rfl
  | some x =>
    obtain ⟨n, s⟩ := x
    obtain ⟨q0, q1, q2, q3, q4⟩ := takeN_tells hb e
    have hs := sizeN_range n
    rw [show outT (some (n, s)) = (n, (s : Int), true) from rfl]
    dsimp only
    have w1 : wrap64 ((b.length : Int) - (s : Int)) = (b.length : Int) - s := wrap_in (by omega) (by omega)
    have w2 : wrap64 ((s : Int) + n) = (s : Int) + n := wrap_in (by omega) (by omega)
    rw [if_pos rfl, w1, w2]
    by_cases h : n > (b.length : Int) - s
    · rw [if_pos h, if_pos (by omega)]; rfl
    · have c1 : (0 : Int) ≤ (s : Int) := by omega
      have c2 : (s : Int) ≤ (s : Int) + n := by omega
      have c3 : (s : Int) + n ≤ (b.length : Int) := by omega
      have t1 : ((s : Int) + n).toNat = s + n.toNat := by omega
      have t2 : ((s : Int)).toNat = s := by omega
      have hneg : ¬ ((b.length : Int) - s < n) := by omega
      rw [if_neg h, if_pos c1, if_pos c2, if_pos c3, t1, t2, if_neg hneg]
      show some (_, _, true) = some (_, _, true)
      congr 3
      omega

end Go.Proofs.Ytdnfknphahmofaa.PNum
