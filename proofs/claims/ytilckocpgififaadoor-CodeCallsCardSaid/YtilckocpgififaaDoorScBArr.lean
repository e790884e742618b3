/- An array of words in a block of its own: what lies there, what may be written, what a store turns. -/
import Derived.Test.YtilckocpgififaaDoorScHStep
import Derived.Test.YtilckocpgififaaDoorScGx4
import Derived.OneCell
import Derived.Laws.Tables
import Derived.Deep.MidRow
import Derived.Deep.RegionHeld3
import Derived.Deep.OwnRows
namespace Go.Proofs.YtilckocpgififaaDoor.G
open Go.RowKit Go.Proofs.YtilckocpgififaaDoorW.PrintWords Go.Proofs.YtilckocpgififaaDoorW.PrintLast Go.Proofs.YtilckocpgififaaDoorW.PrintMore
set_option linter.unusedVariables false
set_option linter.unusedSimpArgs false
abbrev wr (x : Int) : Int:=IntKind.u64.wrap x
def rotP (n : Int) (x : Int) : Int:=Go.bits .or .u64 (shl .u64 x (64 - n)) (shr .u64 x n)
def rotR (n : Int) (x : Int) : Int:=Go.bits .or .u64 (shr .u64 x n) (shl .u64 x (64 - n))
structure Arr (w : World) (g : Nat) (V : List Int) : Prop where
 range : w.rangeAt g 0 (V.map (Value.int .u64))
 there : w.there g 0 V.length
theorem Arr.cell {w : World} {g : Nat} {V : List Int} (h : Arr w g V) (i : Nat) (hi : i < V.length) : w.cell? ⟨g,i,none⟩ = some (.int .u64 (V.getD i 0)):=by
 have:=h.range i (.int .u64 V[i]) (by simp [hi]);rw [Nat.zero_add] at this;rw [this,List.getD_eq_getElem?_getD,List.getElem?_eq_getElem hi];rfl
theorem Arr.frozen {w : World} {g : Nat} {V : List Int} (h : Arr w g V) (i : Nat) (hi : i < V.length) : w.frozen? ⟨g,i,none⟩ = false:=by
 have:=(h.there i hi).2;rwa [Nat.zero_add] at this
theorem arr_set_range {w : World} {g : Nat} {L : List Value} (h : w.rangeAt g 0 L) (ht : w.there g 0 L.length) (i : Nat) (hi : i < L.length) (v : Value) : (w.setCell ⟨g,i,none⟩ v).rangeAt g 0 (L.set i v):=fun j u hj=>by
 rw [Nat.zero_add]
 by_cases e : i = j
 rotate_left
 ·rw [List.getElem?_set_ne e] at hj;rw [World.cell?_setCell_other w _ _ _ (fun q=>e (by cases q;rfl))];have:=h j u hj;rwa [Nat.zero_add] at this
 subst e;have:=(ht i hi).1;rw [Nat.zero_add] at this;rw [List.getElem?_set_self hi] at hj;cases hj;obtain ⟨u0,hu0⟩:=Option.isSome_iff_exists.1 this;exact World.cell?_setCell_same w _ _ hu0
theorem Arr.set {w : World} {g : Nat} {V : List Int} (h : Arr w g V) (i : Nat) (hi : i < V.length) (x : Int) : Arr (w.setCell ⟨g,i,none⟩ (.int .u64 x)) g (V.set i x):=by
 refine ⟨?_,?_⟩
 ·have:=arr_set_range h.range (by rw [List.length_map];exact h.there) i (by rw [List.length_map];exact hi) (.int .u64 x);rw [← List.map_set] at this;exact this
 ·rw [List.length_set];exact World.there_setCells h.there g i [.int .u64 x]
theorem Arr.drew {w : World} {g : Nat} {V : List Int} (h : Arr w g V) : Arr w.drew g V:=⟨(World.rangeAt_drew _ _ _ _).2 h.range,(World.there_drew _ _ _ _).2 h.there⟩
theorem Arr.drewN {w : World} {g : Nat} {V : List Int} (h : Arr w g V) (n : Nat) : Arr (w.drewN n) g V:=⟨h.range,h.there⟩
theorem Arr.of_block {w w' : World} {g : Nat} {V : List Int} (h : Arr w g V) (hb : w'.heap[g]? = w.heap[g]?) : Arr w' g V:=
 ⟨fun j u hj=>(World.cell?_of_block (a:=⟨g,0 + j,none⟩) hb).trans (h.range j u hj),fun j hj=>by
   have:=h.there j hj
   exact ⟨by rw [World.cell?_of_block (a:=⟨g,0 + j,none⟩) hb];exact this.1,by rw [World.frozen?_of_block (a:=⟨g,0 + j,none⟩) hb];exact this.2⟩⟩
theorem Arr.lt {w : World} {g : Nat} {V : List Int} (h : Arr w g V) (h0 : 0 < V.length) : g < w.heap.size:=World.block_lt_of_cell? w _ (h.cell 0 h0)
theorem Arr.below {w w' : World} {g B : Nat} {V : List Int} (h : Arr w g V) (hb : Below B w w') (hg : g < B) : Arr w' g V:=h.of_block (hb.block g hg)
theorem Arr.grown {w w' : World} {g : Nat} {row : Option Nat} {V : List Int} (h : Arr w g V) (h0 : 0 < V.length) (hb : w.grownBy w' row) (hg : some g ≠ row) : Arr w' g V:=h.of_block (hb.block g (h.lt h0) hg)
/-! ### what a store turns -/
theorem grown_set {w w' : World} {g : Nat} (h : w.grownBy w' (some g)) (i : Nat) (v : Value) : w.grownBy (w'.setCell ⟨g,i,none⟩ v) (some g):=
 ⟨h.os,h.tape,h.output,by simpa [World.setCell] using h.size,fun k hk hne=>(Below.heap_setCell w' ⟨g,i,none⟩ v k (fun e=>hne (by rw [e]))).trans (h.block k hk hne)⟩
theorem grown_drew {w w' : World} {r : Option Nat} (h : w.grownBy w' r) : w.grownBy w'.drew r:=⟨h.os,h.tape,h.output,h.size,h.block⟩
theorem grown_drewN {w w' : World} {r : Option Nat} (h : w.grownBy w' r) (n : Nat) : w.grownBy (w'.drewN n) r:=⟨h.os,h.tape,h.output,h.size,h.block⟩
theorem grown_step {w w' w'' : World} {r : Option Nat} (h : w.grownBy w' r) (k : w'.grownBy w'' r) : w.grownBy w'' r:=
 ⟨k.os.trans h.os,k.tape.trans h.tape,k.output.trans h.output,Nat.le_trans h.size k.size,fun b hb hne=>(k.block b (Nat.lt_of_lt_of_le hb h.size) hne).trans (h.block b hb hne)⟩
theorem grown_below {w w' w'' : World} {r : Option Nat} (h : w.grownBy w' r) (k : Below w'.heap.size w' w'') : w.grownBy w'' r:=
 ⟨k.os.trans h.os,k.tape.trans h.tape,k.output.trans h.output,Nat.le_trans h.size k.size,fun b hb hne=>(k.block b (Nat.lt_of_lt_of_le hb h.size)).trans (h.block b hb hne)⟩
/-! ### variables of a block of their own -/
theorem rangeAt_box {w : World} {g t : Nat} {L : List Value} (h : w.heap[g]? = some (.cells L.toArray t (0,0))) : w.rangeAt g 0 L:=fun j v hj=>by
 simp only [World.cell?,h]
 simpa using hj
theorem rangeAt_below {w w1 : World} {B g : Nat} {L : List Value} (h : w.rangeAt g 0 L) (hb : Below B w w1) (hg : g < B) : w1.rangeAt g 0 L:=fun j v hj=>(hb.cell (p:=⟨g,0 + j,none⟩) hg).trans (h j v hj)
theorem results_cell {P : Program} {fn : Func} {t : Tmp} {ty : TypeId} (h : fn.results = #[.cell t ty]) (tmps : Array Value) {w : World} {g : Nat} {v : Value} (hp : tmps.getD t undef = .pointer (some ⟨g,0,none⟩)) (hv : (loadVar ty ⟨g,0,none⟩).run P w = .ok v w) : (results fn tmps).run P w = .ok v w:=by
 have hp' : tmps[t]?.getD undef = .pointer (some ⟨g,0,none⟩):=by rw [← hp];simp
 simp [results,h,hp',asAddr,hv]
theorem below_setCells {B : Nat} {w0 : World} (g : Nat) (hg : B ≤ g) : ∀ (L : List Value) (o : Nat) (w : World),Below B w0 w → Below B w0 (w.setCells g o L)
 | [],_,_,h=>h
 | v :: L,o,w,h=>below_setCells g hg L (o + 1) _ (h.setCell (p:=⟨g,o,none⟩) hg v)
theorem there_box {w : World} {g t : Nat} {L : List Value} (h : w.heap[g]? = some (.cells L.toArray t (0,0))) : w.there g 0 L.length:=fun j hj=>by
 constructor
 ·rw [Nat.zero_add,blk_cell h j];simp [hj]
 ·rw [Nat.zero_add];exact blk_frozen h j
theorem there_setCell {w : World} {g o n : Nat} (h : w.there g o n) (b i : Nat) (v : Value) : (w.setCell ⟨b,i,none⟩ v).there g o n:=World.there_setCells h b i [v]
theorem zero_run {P : Program} {t : TypeId} {v : Value} {n : Nat} (h : (P.info? t).map (fun i=>(i.zero,i.size)) = some (some v,n)) (w : World) : (zeroValue t).run P w = .ok v w:=by
 cases hi : P.info? t with
 | none=>rw [hi] at h;cases h
 | some i=>rw [hi] at h;simp at h;simp [zeroValue,typeInfo,hi,h.1,go_sem]
theorem size_of {P : Program} {t : TypeId} {v : Option Value} {n : Nat} (h : (P.info? t).map (fun i=>(i.zero,i.size)) = some (v,n)) : (P.info? t).map (·.size) = some n:=by
 cases hi : P.info? t with
 | none=>rw [hi] at h;cases h
 | some i=>rw [hi] at h;simp at h;simp [h.2]
theorem one_of_map {k : IntKind} (V : List Int) : ∀ v ∈ V.map (Value.int k),v.oneCell' = true:=by
 intro v hv;obtain ⟨x,_,rfl⟩:=List.mem_map.1 hv
 rfl
theorem slice_event {P : Program} {ops : Array Oper} {rest : List Oper} {o : Oper} {a : Act} {Q : Exit → Act → World → Prop} {W : World} (hgd : o.guard = none) {N : Tmp} (_hd : o.dst = some N) {cs : Array Value} {t : TypeId} {n c : Nat}
 (hrun : (execOp a.eval o).run P W = .ok (.value (.slice (some ⟨W.heap.size,0,none⟩) n c)) (W.alloc (.cells cs t (0,0))))
 (h : ∀ g,g = W.heap.size → ∀ w1,w1.heap[g]? = some (.cells cs t (0,0)) → Below W.heap.size W w1 → wpList P ops Q rest (a.put o.dst (.slice (some ⟨g,0,none⟩) n c)) w1) : wpList P ops Q (o :: rest) a W:=
 Kd.event_run hgd hrun (h _ rfl _ (blk_new W _) (below_alloc (Below.refl _ _) _))
/-! ### turning to the right -/
theorem rotP_some (n : Int) (k : Int) (x : Int) (h : Go.bits .and .u64 (IntKind.u64.wrap k) 63 = 64 - n) (h0 : 0 ≤ n) (h1 : n ≤ 64) : bits_RotateLeft64.f x k = some (rotP n x):=by
 have e : IntKind.u64.wrap (64 - (64 - n)) = n:=by
  rw [show (64 : Int) - (64 - n) = n by omega,IntKind.wrap_u64];omega
 unfold bits_RotateLeft64.f rotP
 rw [h,e,if_pos (by omega),if_pos h0]
theorem rotP_some32 (x : Int) : bits_RotateLeft64.f x (-32) = some (rotP 32 x):=rotP_some 32 (-32) x (by decide +kernel) (by decide) (by decide)
theorem rotP_some24 (x : Int) : bits_RotateLeft64.f x (-24) = some (rotP 24 x):=rotP_some 24 (-24) x (by decide +kernel) (by decide) (by decide)
theorem rotP_some16 (x : Int) : bits_RotateLeft64.f x (-16) = some (rotP 16 x):=rotP_some 16 (-16) x (by decide +kernel) (by decide) (by decide)
theorem rotP_some63 (x : Int) : bits_RotateLeft64.f x (-63) = some (rotP 63 x):=rotP_some 63 (-63) x (by decide +kernel) (by decide) (by decide)
end Go.Proofs.YtilckocpgififaaDoor.G
