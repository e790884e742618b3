import Derived.Test.YtilckocpgififaaFiGx0
import Derived.RangeFuncNested
import Derived.RangeFuncBound
import Derived.RangeFuncCalls
import Derived.RangeFuncLeaves
import Derived.RangeFuncBox
import Derived.Shelf.Abstract
import Derived.Shelf.RegionOpen
import Derived.OwnWalkIn
import Derived.TacticsInMore
import Derived.LoopNIn
import Derived.LoopIn
import Derived.IntWalk
import Derived.Lib.Hide
import Derived.Test.YtilckocpgififaaFiGx3
import Derived.Test.YtilckocpgififaaFiHClone
import Derived.Test.YtilckocpgififaaFiGx4
import Derived.Test.YtilckocpgififaaFiGx6
import Derived.Test.YtilckocpgififaaFiHKnown
import Derived.Laws.BitsLemmas
/- Numbers as bytes, plainly: what compact's Size, lays, Put and Take compute. -/
namespace Go.Proofs.Ytilckocpgififaa.PNum
open Go.RowKit Go.Proofs.Ytilckocpgififaa.G Go.Proofs.YtilckocpgififaaW.PrintWords Go.Proofs.YtilckocpgififaaW.PrintMore
set_option linter.unusedVariables false
set_option linter.unusedSimpArgs false

theorem wrap_in {a : Int} (h0 : 0 ≤ a) (h : a ≤ 9223372036854775807) : wrap64 a = a := by unfold wrap64; omega

/-! ### bytes, the lowest first -/

/-! ### sizes -/

/-! ### laying -/

end Go.Proofs.Ytilckocpgififaa.PNum
