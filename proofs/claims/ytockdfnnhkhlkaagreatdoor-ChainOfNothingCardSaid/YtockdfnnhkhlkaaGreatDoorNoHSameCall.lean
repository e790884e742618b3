/- code.isCall: may a call be, within so many batches? By hand: a closure over the depth, and slices.ContainsFunc. -/
import Derived.Test.YtockdfnnhkhlkaaGreatDoorNoGx0
import Derived.Lib.SliceRun
import Derived.IntWalk
import Derived.OneCell
namespace Go.Proofs.YtockdfnnhkhlkaaGreatDoor.G
open Go.RowKit Go.Proofs.YtockdfnnhkhlkaaGreatDoorW.PrintWords Go.Proofs.YtockdfnnhkhlkaaGreatDoorW.PrintLast Go.Proofs.YtockdfnnhkhlkaaGreatDoorW.PrintMore
set_option linter.unusedVariables false
set_option linter.unusedSimpArgs false

theorem rd_T (l : List S28) (i : Nat) (h : i < l.length) : rd_T28 l (i : Int) = l[i] := by
  unfold rd_T28
  rw [Int.toNat_natCast, List.getD_eq_getElem?_getD, List.getElem?_eq_getElem h]; rfl

end Go.Proofs.YtockdfnnhkhlkaaGreatDoor.G

/- code.SameCall: are two calls one? By hand: slices.EqualFunc over itself. -/
namespace Go.Proofs.YtockdfnnhkhlkaaGreatDoor.G
open Go.RowKit Go.Proofs.YtockdfnnhkhlkaaGreatDoorW.PrintWords Go.Proofs.YtockdfnnhkhlkaaGreatDoorW.PrintLast Go.Proofs.YtockdfnnhkhlkaaGreatDoorW.PrintMore
set_option linter.unusedVariables false
set_option linter.unusedSimpArgs false

theorem C_short {w : World} {A : Option Addr} {n : Nat} {l : List S28} (h : Kd.C k28 w A n l) : n ≤ 9223372036854775807 := h.2.1

end Go.Proofs.YtockdfnnhkhlkaaGreatDoor.G
