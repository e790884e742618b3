/- The frame of every law of this seat: a law whose walk returns true, and changes nothing that was there, is a law as its row says. -/
import Derived.Test.YtilckocpgififaaDoorRows
import Derived.WalkKit
import Derived.ProofKit
import Derived.OpenShut
import Derived.ShutString
import Derived.ChangeOld
import Derived.Below
import Derived.Carry
import Derived.SizedLaws
import Derived.JoinedOf
namespace Go.Proofs.YtilckocpgififaaDoor.Frame
open Go.ChangeShapes Go.WideShapes Go.ChangeAt Go.RowKit
variable {H : Type} {enc : TypeId × Value → H} {P : Program}
theorem trodAll_below (hl : laidOutB P = true) {W W' : World} (hb : Below W.heap.size W W') :
 ∀ (ts : List TypeId) (vs : List Value) (ds : List (DataW H)) (ps : List MemPlace),(ts.all fun t=>P.readableRec t && decide (t < P.types.size)) = true →
   DataW.TrodAll enc P W 0 (fun _=>true) true ts vs ds ps → (∀ x ∈ ps,x.block < W.heap.size) →
   DataW.TrodAll enc P W' 0 (fun b=>decide (b < W.heap.size)) true ts vs ds ps:=by
 intro ts
 induction ts with
 | nil=>
   intro vs ds ps _ h _;obtain ⟨rfl,rfl,rfl⟩:=trodAll_nil h;exact trodAll_mk0
 | cons t ts ih=>
   intro vs ds ps hr h hlt;obtain ⟨v,vs',d,ds',p,q,rfl,rfl,rfl,h0,hs⟩:=trodAll_cons h;simp only [List.all_cons,Bool.and_eq_true,decide_eq_true_eq] at hr;obtain ⟨⟨hr1,hr2⟩,hr3⟩:=hr;refine trodAll_cons_mk (Below.trod hl hr1 hr2 h0 hb (fun x hx=>hlt x (List.mem_append.2 (Or.inl hx)))) (ih vs' ds' q ?_ hs (fun x hx=>hlt x (List.mem_append.2 (Or.inr hx))))
   simpa [List.all_eq_true,Bool.and_eq_true] using hr3
theorem trodAll_length : ∀ (ts : List TypeId) (vs : List Value) (ds : List (DataW H)) (ps : List MemPlace) {W : World} {b : Nat} {sp : Nat → Bool} {held : Bool},
 DataW.TrodAll enc P W b sp held ts vs ds ps → ds.length = ts.length ∧ vs.length = ts.length:=by
 intro ts
 induction ts with
 | nil=>
   intro vs ds ps W b sp held h;obtain ⟨rfl,rfl,rfl⟩:=trodAll_nil h;exact ⟨rfl,rfl⟩
 | cons t ts ih=>
   intro vs ds ps W b sp held h;obtain ⟨v,vs',d,ds',p,q,rfl,rfl,rfl,h0,hs⟩:=trodAll_cons h;obtain ⟨h1,h2⟩:=ih _ _ _ hs;exact ⟨by simp [h1],by simp [h2]⟩
theorem own : ownKnob Tryd.prog.godebug = none:=by kernel_rfl
theorem laid : laidOutB Tryd.prog = true:=by kernel_rfl
end Go.Proofs.YtilckocpgififaaDoor.Frame
