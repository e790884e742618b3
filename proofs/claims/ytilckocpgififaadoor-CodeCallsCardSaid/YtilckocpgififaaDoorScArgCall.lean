/- Arguments that are calls, lists of calls, extrinsics: opened to what the contracts speak of. -/
import Derived.Deep.Slices
import Derived.Deep.Fields
import Derived.ChangeSame
import Derived.Lib.SmallJoins
import Derived.Test.YtilckocpgififaaDoorScHExt
import Derived.WalkKit
import Derived.ProofKit
import Derived.ChangeAt
import Derived.OpenShut
namespace Go.Proofs.YtilckocpgififaaDoor.ArgCall
open Go.Extern.Stop (cell)
open Go.ChangeShapes Go.WideShapes Go.ChangeAt Go.RowKit Go.Deep Go.Proofs.YtilckocpgififaaDoor.G Go.Proofs.YtilckocpgififaaDoorW.PrintWords
set_option linter.unusedVariables false
variable {H : Type} {enc : TypeId × Value → H}
theorem list_of {α : Type} {P : Nat → α → Prop} : ∀ (n : Nat),(∀ i,i < n → ∃ x,P i x) → ∃ l : List α,l.length = n ∧ ∀ i x,l[i]? = some x → P i x:=by
 intro n
 induction n with
 | zero=>intro _;exact ⟨[],rfl,fun i x h=>by simp at h⟩
 | succ n ih=>
   intro h;obtain ⟨l,hl,hp⟩:=ih (fun i hi=>h i (by omega));obtain ⟨x,hx⟩:=h n (by omega);refine ⟨l ++ [x],by simp [hl],fun i y hy=>?_⟩
   rcases Nat.lt_or_ge i n with hi | hi
   ·rw [List.getElem?_append_left (by omega)] at hy;exact hp i y hy
   ·rw [List.getElem?_append_right (by omega)] at hy
    have : i - l.length = 0:=by
     rcases Nat.eq_zero_or_pos (i - l.length) with h0 | h0
     ·exact h0
     ·rw [List.getElem?_eq_none (by simp;omega)] at hy;cases hy
    rw [this] at hy
    simp at hy
    obtain rfl : i = n:=by omega
    exact hy ▸ hx
theorem fieldAt {P : Program} {W : World} {m : Nat} {fs : Array Field} {cs : List Value} {xs : List (DataW H × List MemPlace)}
 (hf : ∀ (i : Nat) (f : Field),fs[i]? = some f → DataW.trod enc P W 0 (fun _=>true) true m f.type ((cs.drop f.offset).take (P.cellsOf f.type)) = xs[i]?)
 (i : Nat) (ty : TypeId) (off c : Nat) (h : (fs[i]?).map (fun f=>(f.type,f.offset)) = some (ty,off)) (hc : P.cellsOf ty = c) (hi : i < xs.length) :
 DataW.trod enc P W 0 (fun _=>true) true m ty ((cs.drop off).take c) = some (xs.getD i (.nil,[])):=by
 cases e : fs[i]? with
 | none=>rw [e] at h;cases h
 | some f=>
   rw [e] at h;simp only [Option.map_some,Option.some.injEq,Prod.mk.injEq] at h;obtain ⟨rfl,rfl⟩:=h;have h1:=hf i f e;rw [hc] at h1;rw [h1,List.getD_eq_getElem?_getD,List.getElem?_eq_getElem hi];rfl
theorem open_kdN {α : Type} {d : Kd α} {P : Program} {W : World} {t e : TypeId} (ht : P.underlying t = some (.slice e)) (hsz : P.cellsOf e = d.sz)
 {fuel : Nat} (elem : ∀ n,n < fuel → ∀ cs y,DataW.trod enc P W 0 (fun _=>true) true n e cs = some y → ∃ x,d.K W x cs ∧ cs.length = d.sz)
 {cs : List Value} {z : DataW H × List MemPlace} (h : DataW.trod enc P W 0 (fun _=>true) true fuel t cs = some z) :
 ∃ (A : Option Addr) (c : Nat) (xs : List α),cs = [.slice A xs.length c] ∧ d.C W A xs.length xs ∧ xs.length ≤ c:=by
 rcases DataW.trod_slice ht h with ⟨rfl,rfl⟩ | ⟨ad,len,cap,els,rest,n,hn,rfl,rfl,_,hl,hm,hlen,hel,_,_⟩
 ·exact ⟨none,0,[],rfl,Kd.C_nil _ _,Nat.le_refl _⟩
 ·obtain ⟨xs,hxl,hp⟩:=list_of (P:=fun i (x : α)=>∃ cs',d.K W x cs' ∧ cs'.length = d.sz ∧ (∀ j u,cs'[j]? = some u → W.cell? (ad.add (i * d.sz + j)) = some u)) len (by
   intro i hlt;have hi:=hel i hlt;rw [List.getElem?_eq_getElem (by omega : i < els.length)] at hi;simp only [Option.bind_eq_some_iff] at hi;obtain ⟨cs',hc,ht'⟩:=hi;obtain ⟨x,hK,hl'⟩:=elem n (by omega) cs' _ ht';rw [hsz] at hc;obtain ⟨_,hcl,hat⟩:=World.cells?_some hc;refine ⟨x,cs',hK,hl',fun j u hj=>?_⟩
   have hjl : j < d.sz:=by rw [← hl'];exact (List.getElem?_eq_some_iff.1 hj).1
   have:=hat j hjl
   rw [← Go.Deep.add_add,this,hj])
  subst hxl
  exact ⟨some ad,cap,xs,rfl,⟨rfl,by unfold maxLen at hm;omega,fun _=>⟨ad,rfl,fun j p hj=>by
   obtain ⟨cs',hK,hl',hat⟩:=hp j p hj
   exact ⟨cs',hl',hK,hat⟩⟩⟩,hl⟩
theorem cells_call : Tryd.prog.cellsOf 24 = 4:=by kernel_rfl
theorem cells_int : Tryd.prog.cellsOf 3 = 1:=by kernel_rfl
theorem cells_calls : Tryd.prog.cellsOf 22 = 1:=by kernel_rfl
set_option maxRecDepth 100000 in
theorem elem_call {W : World} : ∀ N n,n < N → ∀ cs y,DataW.trod enc Tryd.prog W 0 (fun _=>true) true n 24 cs = some y → ∃ x : S24,k24.K W x cs ∧ cs.length = k24.sz:=by
 intro N
 induction N with
 | zero=>intro n hn;omega
 | succ N ih=>
   intro n hn cs y h;obtain ⟨xs,m,hm,_,hl,hlen,hf⟩:=DataW.trod_struct Tryd.underlying24 h;rw [cells_call] at hl
   match cs,hl with
   | [c0,c1,c2,c3],_=>
     have hx : xs.length = 4:=hlen;have f0:=fieldAt hf 0 3 0 1 rfl cells_int (by omega);have f1:=fieldAt hf 1 3 1 1 rfl cells_int (by omega);have f2:=fieldAt hf 2 3 2 1 rfl cells_int (by omega);have f3:=fieldAt hf 3 22 3 1 rfl cells_calls (by omega);simp only [List.drop,List.take] at f0 f1 f2 f3;obtain ⟨a0,e0,_,_⟩:=DataW.trod_int Tryd.underlying3 f0;obtain ⟨a1,e1,_,_⟩:=DataW.trod_int Tryd.underlying3 f1;obtain ⟨a2,e2,_,_⟩:=DataW.trod_int Tryd.underlying3 f2;obtain ⟨A,c,l,e3,hC,hc⟩:=open_kdN (d:=k24) Tryd.underlying22 (by rw [cells_call];rfl) (fun n' hn'=>ih n' (by omega)) f3
     cases e0;cases e1;cases e2;cases e3
     exact ⟨⟨a0,a1,a2,l⟩,k24_mk W ⟨a0,a1,a2,l⟩ hc hC,rfl⟩
set_option maxRecDepth 100000 in
theorem open_call {W : World} {b0 : Nat} {v : Value} {d : DataW H} {p : List MemPlace} (hv : Value.okWide Tryd.prog W .any b0 24 v) (h : DataW.Trod enc Tryd.prog W 0 (fun _=>true) true 24 v d p) :
 ∃ (A : Option Addr) (c : Nat) (x : S24),v = .agg #[.int .i64 x.f0,.int .i64 x.f1,.int .i64 x.f2,.slice A x.f3.length c] ∧ Kd.C k24 W A x.f3.length x.f3 ∧ x.f3.length ≤ c:=by
 obtain ⟨cs,rfl,hsz⟩:=okWide_struct Tryd.underlying24 hv;obtain ⟨fuel,hf⟩:=h;obtain ⟨x,hK,hl⟩:=elem_call (fuel + 1) fuel (by omega) _ _ hf;obtain ⟨A,c,e,hc,hC⟩:=k24_open hK
 simp [Value.cells] at e
 obtain ⟨l⟩:=cs
 simp at e
 subst e;exact ⟨A,c,x,rfl,hC,hc⟩
end Go.Proofs.YtilckocpgififaaDoor.ArgCall
