import Derived.Test.YtilckocpgififaaDoorScHStep
import Derived.RangeFuncNested
import Derived.RangeFuncBound
import Derived.RangeFuncCalls
import Derived.RangeFuncLeaves
import Derived.RangeFuncBox
import Derived.Shelf.Abstract
import Derived.Shelf.RegionOpen
import Derived.OwnWalkIn
import Derived.TacticsInMore
import Derived.LoopNIn
import Derived.LoopIn
import Derived.IntWalk
import Derived.Lib.Hide
namespace Go.Proofs.YtilckocpgififaaDoor.G
open Go.RowKit Go.Shelf Go.Proofs.YtilckocpgififaaDoorW.PrintWords
set_option linter.unusedVariables false
def KeepsS (S : Nat → Prop) (W W' : World) : Prop:=W.heap.size ≤ W'.heap.size ∧ ∀ k,S k → W'.heap[k]? = W.heap[k]?
theorem KeepsS.refl (S : Nat → Prop) (W : World) : KeepsS S W W:=⟨Nat.le_refl _,fun _ _=>rfl⟩
theorem keepsS_t {S : Nat → Prop} {A B C : World} (h : KeepsS S A B) (k : KeepsS S B C) : KeepsS S A C:=⟨Nat.le_trans h.1 k.1,fun q hq=>(k.2 q hq).trans (h.2 q hq)⟩
theorem keepsS_b {S : Nat → Prop} {w : World} (hS : ∀ k,S k → k < w.heap.size) (W : World) (l : Nat) (o o' : Obj) (hl : w.heap.size ≤ l) (h : W.heap[l]? = some o) (_ : o.isCells = false) (_ : o.isWalk = false) : KeepsS S W (W.putObj l o'):=⟨(grownBy_putObj' W l o').size,fun k hk=>
 ((Below.refl (k + 1) W).grown (grownBy_putObj' W l o') (by have:=(Array.getElem?_eq_some_iff.1 h).1;have:=hS k hk;omega) (fun q e=>by cases e;have:=hS k hk;omega)).block k (Nat.lt_succ_self k)⟩
theorem KeepsS.cell {S : Nat → Prop} {W W' : World} (h : KeepsS S W W') {p : Addr} (hp : S p.block) : W'.cell? p = W.cell? p:=World.cell?_of_block (w:=W) (h.2 p.block hp)
theorem KeepsS.of_below {S : Nat → Prop} {B : Nat} {W W' : World} (h : Below B W W') (hS : ∀ k,S k → k < B) : KeepsS S W W':=⟨h.size,fun k hk=>h.block k (hS k hk)⟩
theorem KeepsS.setCell {S : Nat → Prop} {A W : World} (h : KeepsS S A W) {p : Addr} (hp : ¬ S p.block) (u : Value) : KeepsS S A (W.setCell p u):=⟨by rw [World.size_setCell];exact h.1,fun k hk=>(Below.heap_setCell W p u k (fun e=>hp (e ▸ hk))).trans (h.2 k hk)⟩
theorem addr_block (a : Addr) (i : Nat) : (a.add i).block = a.block:=by unfold Addr.add;split <;> rfl
theorem C_cells {k : IntKind} {w : World} {A : Option Addr} {n : Nat} {xs : List Int} (h : Kd.C (Kd.int k) w A n xs) :
 (xs = [] ∧ n = 0) ∨ ∃ ad,A = some ad ∧ 0 < n ∧ ∀ i : Int,0 ≤ i → i < n → w.cell? (ad.add i.toNat) = some (.int k (rd xs i)):=by
 rcases Nat.eq_zero_or_pos n with h0 | h0
 ·subst h0;exact .inl ⟨List.length_eq_zero_iff.1 h.1,rfl⟩
 ·obtain ⟨ad,e,_⟩:=h.2.2 h0;refine .inr ⟨ad,e,h0,fun i hi hlt=>?_⟩;obtain ⟨ad',e',hc⟩:=Kd.at_int h i hi hlt;rw [e] at e';cases e';exact hc
end Go.Proofs.YtilckocpgififaaDoor.G
