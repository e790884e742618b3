/- The text of blake's orders: ten rows of sixteen digits. -/
import Derived.Test.YtilckocpgififaaDoorScBArr
import Derived.IntWalk
namespace Go.Proofs.YtilckocpgififaaDoor.G
open Go.RowKit Go.Proofs.YtilckocpgififaaDoorW.PrintWords Go.Proofs.YtilckocpgififaaDoorW.PrintLast Go.Proofs.YtilckocpgififaaDoorW.PrintMore
set_option linter.unusedVariables false
set_option linter.unusedSimpArgs false
def ordersL : List (List UInt8):=[[48,49,50,51,52,53,54,55,56,57,97,98,99,100,101,102],[101,97,52,56,57,102,100,54,49,99,48,50,98,55,53,51],[98,56,99,48,53,50,102,100,97,101,51,54,55,49,57,52],[55,57,51,49,100,99,98,101,50,54,53,97,52,48,102,56],[57,48,53,55,50,52,97,102,101,49,98,99,54,56,51,100],[50,99,54,97,48,98,56,51,52,100,55,53,102,101,49,57],[99,53,49,102,101,100,52,97,48,55,54,51,57,50,56,98],[100,98,55,101,99,49,51,57,53,48,102,52,56,54,50,97],[54,102,101,57,98,51,48,56,99,50,100,55,49,52,97,53],[97,50,56,52,55,54,49,53,102,98,57,101,51,99,100,48]]
def ordersB : ByteArray:=⟨(ordersL.intersperse [32]).flatten.toArray⟩
def rowOf (j : Nat) : ByteArray:=⟨(ordersL.getD j []).toArray⟩
theorem orders_size : ordersB.size = 169:=by decide +kernel
theorem orders_at : ∀ i : Fin 169,(i.val % 17 = 16 ∧ bt ordersB (i.val : Int) = 32) ∨ (i.val % 17 ≠ 16 ∧ (48 ≤ bt ordersB (i.val : Int) ∧ bt ordersB (i.val : Int) ≤ 57 ∨ 97 ≤ bt ordersB (i.val : Int) ∧ bt ordersB (i.val : Int) ≤ 102)):=by decide +kernel
theorem or_small7 : ∀ a b : Fin 128,0 ≤ Go.bits .or .u8 (a.val : Int) (b.val : Int) ∧ Go.bits .or .u8 (a.val : Int) (b.val : Int) < 128:=by decide +kernel
theorem rows_cut : ∀ j : Fin 10,ordersB.extract (17 * j.val) (17 * j.val + 16) = rowOf j.val:=by decide +kernel
end Go.Proofs.YtilckocpgififaaDoor.G
