import Derived.Test.YtilckocpgififaaNePRef
import Derived.Test.YtilckocpgififaaNeGx0
import Derived.RangeFuncNested
import Derived.RangeFuncBound
import Derived.RangeFuncCalls
import Derived.RangeFuncLeaves
import Derived.RangeFuncBox
import Derived.Shelf.Abstract
import Derived.Shelf.RegionOpen
import Derived.OwnWalkIn
import Derived.TacticsInMore
import Derived.LoopNIn
import Derived.LoopIn
import Derived.IntWalk
import Derived.Lib.Hide
import Derived.Test.YtilckocpgififaaNeGx7
import Derived.Test.YtilckocpgififaaNeGx3
import Derived.Test.YtilckocpgififaaNeHClone
/- Rows, plainly (without what chapter 1 asks of them). -/
namespace Go.Proofs.Ytilckocpgififaa.PNum
open Go.RowKit Go.Proofs.Ytilckocpgififaa.G Go.Proofs.YtilckocpgififaaW.PrintWords Go.Proofs.YtilckocpgififaaW.PrintMore Go.Proofs.YtilckocpgififaaW.PrintLast
set_option linter.unusedVariables false
set_option linter.unusedSimpArgs false

def rowsSize (l : List (List Int)) : Nat := (l.map fun p => 1 + p.length).sum
theorem rowsSize_cons (p : List Int) (l : List (List Int)) : rowsSize (p :: l) = 1 + p.length + rowsSize l := by simp [rowsSize]
theorem rd_L (l : List (List Int)) (i : Nat) (h : i < l.length) : rd_L4 l (i : Int) = l[i] := by
  unfold rd_L4
  simp [List.getD_eq_getElem?_getD, h]
theorem length_le_rowsSize (l : List (List Int)) : l.length ≤ rowsSize l := by
  induction l with
  | nil => simp
  | cons p l ih => rw [rowsSize_cons, List.length_cons]; omega

theorem refNums_loop (ns : List Int) (d : Nat) : ∀ (k i : Nat) (b : List Int), i + d = ns.length → ns.length ≤ 1000000 → d + 16 ≤ k → b.length + 9 * d + 9 < 140737488355328 →
    althingref1_Nums.l0 k ns b i = some (b ++ numsB (ns.drop i)) := by
  induction d with
  | zero =>
    intro k i b hi hn hk hl
    obtain ⟨k, rfl⟩ : ∃ q, k = q + 1 := ⟨k - 1, by omega⟩
    rw [althingref1_Nums.l0, if_neg (by omega), List.drop_eq_nil_of_le (by omega)]
    simp [numsB]
  | succ d ih =>
    intro k i b hi hn hk hl
    obtain ⟨k, rfl⟩ : ∃ q, k = q + 1 := ⟨k - 1, by omega⟩
    have hlt : i < ns.length := by omega
    have e1 : wrap64 ((i : Int) + 1) = ((i + 1 : Nat) : Int) := by rw [wrap_in (by omega) (by omega)]; omega
    have hs := sizeN_range ns[i]
    have hz := numB_length ns[i]
    have c1 : (i : Int) < (ns.length : Int) := by omega
    have c2 : (0 : Int) ≤ (i : Int) := by omega
    have c3 : b.length + (numB ns[i]).length < 140737488355328 := by omega
    have hi' : i + 1 + d = ns.length := by omega
    have hk' : d + 16 ≤ k := by omega
    have hl' : (b ++ numB ns[i]).length + 9 * d + 9 < 140737488355328 := by rw [List.length_append]; omega
    rw [althingref1_Nums.l0, if_pos c1, if_pos c2, rd_nat ns i hlt, rnum_tells k _ (by omega), Option.bind_some, if_pos c3, e1]
    rw [ih k (i + 1) _ hi' hn hk' hl', List.drop_eq_getElem_cons hlt, numsB_cons]
    simp
theorem refNums_tells (k : Nat) (ns : List Int) (hn : ns.length ≤ 1000000) (hk : ns.length + 16 ≤ k) : althingref1_Nums.f k ns = some (numsB ns) := by
  exact refNums_loop ns ns.length k 0 [] (by omega) hn hk (by simp; omega)

def rowB (p : List Int) : List Int := numB (p.length : Int) ++ p
def rowsB (l : List (List Int)) : List Int := l.flatMap rowB
theorem rowsB_cons (p : List Int) (l : List (List Int)) : rowsB (p :: l) = rowB p ++ rowsB l := rfl
theorem rowsB_append (a b : List (List Int)) : rowsB (a ++ b) = rowsB a ++ rowsB b := by simp [rowsB]
theorem rowB_length (p : List Int) : (rowB p).length = sizeN p.length + p.length := by unfold rowB; rw [List.length_append, numB_length]
theorem refRow_tells (k : Nat) (p : List Int) (hp : p.length < 140737488355300) (hk : 15 ≤ k) : althingref1_Row.f k p = some (rowB p) := by
  have hs := sizeN_range (p.length : Int)
  have hz := numB_length (p.length : Int)
  have c : (numB (p.length : Int)).length + p.length < 140737488355328 := by omega
  unfold althingref1_Row.f
  rw [rnum_tells k _ hk, Option.bind_some, if_pos c]
  rfl

theorem row_loop (ps : List (List Int)) (hps : rowsSize ps ≤ 1000000000) (d : Nat) : ∀ (k i : Nat) (b : List Int), i + d = ps.length → d + 11 ≤ k → b.length + 9 * rowsSize (ps.drop i) + 9 < 140737488355328 →
    compact_Row.l0 k b ps (ps.length : Int) i = some (b ++ rowsB (ps.drop i)) := by
  induction d with
  | zero =>
    intro k i b hi hk hl
    obtain ⟨k, rfl⟩ : ∃ q, k = q + 1 := ⟨k - 1, by omega⟩
    rw [compact_Row.l0, if_neg (by omega), List.drop_eq_nil_of_le (by omega)]
    simp [rowsB]
  | succ d ih =>
    intro k i b hi hk hl
    obtain ⟨k, rfl⟩ : ∃ q, k = q + 1 := ⟨k - 1, by omega⟩
    have hlt : i < ps.length := by omega
    have hll := length_le_rowsSize ps
    have e1 : wrap64 ((i : Int) + 1) = ((i + 1 : Nat) : Int) := by rw [wrap_in (by omega) (by omega)]; omega
    have hs := sizeN_range (ps[i].length : Int)
    have hz := numB_length (ps[i].length : Int)
    have hd := List.drop_eq_getElem_cons hlt
    rw [hd, rowsSize_cons] at hl
    have c1 : (i : Int) < (ps.length : Int) := by omega
    have c2 : (0 : Int) ≤ (i : Int) := by omega
    have c3 : (b ++ numB (ps[i].length : Int)).length + ps[i].length < 140737488355328 := by rw [List.length_append]; omega
    have hi' : i + 1 + d = ps.length := by omega
    have hk' : d + 11 ≤ k := by omega
    have hl' : (b ++ numB (ps[i].length : Int) ++ ps[i]).length + 9 * rowsSize (ps.drop (i + 1)) + 9 < 140737488355328 := by rw [List.length_append, List.length_append]; omega
    rw [compact_Row.l0, if_pos c1, if_pos c2, if_pos c1, rd_L ps i hlt, lays_tells k b _ (by omega) (by omega), Option.bind_some, if_pos c3, e1]
    rw [ih k (i + 1) _ hi' hk' hl', hd, rowsB_cons, rowB]
    simp
theorem row_tells (k : Nat) (b : List Int) (ps : List (List Int)) (hps : rowsSize ps ≤ 1000000000) (hk : ps.length + 11 ≤ k) (hb : b.length + 9 * rowsSize ps + 9 < 140737488355328) : compact_Row.f k b ps = some (b ++ rowsB ps) := by
  unfold compact_Row.f
  have hc : slices_Clone_byte_byte.f b = some b := by
    unfold slices_Clone_byte_byte.f
    rw [Option.bind_some, if_pos (by simp; omega)]; rfl
  rw [hc, Option.bind_some]
  exact row_loop ps hps ps.length k 0 b (by omega) hk (by simpa using hb)

/-! ### Cut -/

end Go.Proofs.Ytilckocpgififaa.PNum
