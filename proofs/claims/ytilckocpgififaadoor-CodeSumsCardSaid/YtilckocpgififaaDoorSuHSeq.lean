import Derived.Test.YtilckocpgififaaDoorSuGx4
import Derived.RangeFuncNested
import Derived.RangeFuncBound
import Derived.RangeFuncCalls
import Derived.RangeFuncLeaves
import Derived.RangeFuncBox
import Derived.Shelf.Abstract
import Derived.Shelf.RegionOpen
import Derived.OwnWalkIn
import Derived.TacticsInMore
import Derived.LoopNIn
import Derived.LoopIn
import Derived.IntWalk
import Derived.Lib.Hide
namespace Go.Proofs.YtilckocpgififaaDoor.G
open Go.RowKit Go.Shelf Go.Proofs.YtilckocpgififaaDoorW.PrintWords
set_option linter.unusedVariables false

/-- What a read row's elements are, and where. -/
theorem C_cells {k : IntKind} {w : World} {A : Option Addr} {n : Nat} {xs : List Int} (h : Kd.C (Kd.int k) w A n xs) :
    (xs = [] ∧ n = 0) ∨ ∃ ad, A = some ad ∧ 0 < n ∧ ∀ i : Int, 0 ≤ i → i < n → w.cell? (ad.add i.toNat) = some (.int k (rd xs i)) := by
  rcases Nat.eq_zero_or_pos n with h0 | h0
  · subst h0; exact .inl ⟨List.length_eq_zero_iff.1 h.1, rfl⟩
  · obtain ⟨ad, e, _⟩ := h.2.2 h0
    refine .inr ⟨ad, e, h0, fun i hi hlt => ?_⟩
    obtain ⟨ad', e', hc⟩ := Kd.at_int h i hi hlt
    rw [e] at e'; cases e'; exact hc

end Go.Proofs.YtilckocpgififaaDoor.G
