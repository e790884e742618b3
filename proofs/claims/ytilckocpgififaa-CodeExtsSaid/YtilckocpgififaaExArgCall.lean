/- Arguments that are calls, lists of calls, extrinsics: opened to what the contracts speak of. -/
import Derived.Deep.Slices
import Derived.Deep.Fields
import Derived.ChangeSame
import Derived.Lib.SmallJoins
import Derived.Test.YtilckocpgififaaExHExt
import Derived.WalkKit
import Derived.ProofKit
import Derived.ChangeAt
import Derived.OpenShut
namespace Go.Proofs.Ytilckocpgififaa.ArgCall
open Go.Extern.Stop (cell)
open Go.ChangeShapes Go.WideShapes Go.ChangeAt Go.RowKit Go.Deep Go.Proofs.Ytilckocpgififaa.G Go.Proofs.YtilckocpgififaaW.PrintWords
set_option linter.unusedVariables false
variable {H : Type} {enc : TypeId × Value → H}
theorem list_of {α : Type} {P : Nat → α → Prop} : ∀ (n : Nat),(∀ i,i < n → ∃ x,P i x) → ∃ l : List α,l.length = n ∧ ∀ i x,l[i]? = some x → P i x:=by
 intro n
 induction n with
 | zero=>intro _;exact ⟨[],rfl,fun i x h=>by simp at h⟩
 | succ n ih=>
   intro h;obtain ⟨l,hl,hp⟩:=ih (fun i hi=>h i (by omega));obtain ⟨x,hx⟩:=h n (by omega);refine ⟨l ++ [x],by simp [hl],fun i y hy=>?_⟩
   rcases Nat.lt_or_ge i n with hi | hi
   ·rw [List.getElem?_append_left (by omega)] at hy;exact hp i y hy
   ·rw [List.getElem?_append_right (by omega)] at hy
    have : i - l.length = 0:=by
     rcases Nat.eq_zero_or_pos (i - l.length) with h0 | h0
     ·exact h0
     ·rw [List.getElem?_eq_none (by simp;omega)] at hy;cases hy
    rw [this] at hy
    simp at hy
    obtain rfl : i = n:=by omega
    exact hy ▸ hx
theorem fieldAt {P : Program} {W : World} {m : Nat} {fs : Array Field} {cs : List Value} {xs : List (DataW H × List MemPlace)}
 (hf : ∀ (i : Nat) (f : Field),fs[i]? = some f → DataW.trod enc P W 0 (fun _=>true) true m f.type ((cs.drop f.offset).take (P.cellsOf f.type)) = xs[i]?)
 (i : Nat) (ty : TypeId) (off c : Nat) (h : (fs[i]?).map (fun f=>(f.type,f.offset)) = some (ty,off)) (hc : P.cellsOf ty = c) (hi : i < xs.length) :
 DataW.trod enc P W 0 (fun _=>true) true m ty ((cs.drop off).take c) = some (xs.getD i (.nil,[])):=by
 cases e : fs[i]? with
 | none=>rw [e] at h;cases h
 | some f=>
   rw [e] at h;simp only [Option.map_some,Option.some.injEq,Prod.mk.injEq] at h;obtain ⟨rfl,rfl⟩:=h;have h1:=hf i f e;rw [hc] at h1;rw [h1,List.getD_eq_getElem?_getD,List.getElem?_eq_getElem hi];rfl
theorem open_kdN {α : Type} {d : Kd α} {P : Program} {W : World} {t e : TypeId} (ht : P.underlying t = some (.slice e)) (hsz : P.cellsOf e = d.sz)
 {fuel : Nat} (elem : ∀ n,n < fuel → ∀ cs y,DataW.trod enc P W 0 (fun _=>true) true n e cs = some y → ∃ x,d.K W x cs ∧ cs.length = d.sz)
 {cs : List Value} {z : DataW H × List MemPlace} (h : DataW.trod enc P W 0 (fun _=>true) true fuel t cs = some z) :
 ∃ (A : Option Addr) (c : Nat) (xs : List α),cs = [.slice A xs.length c] ∧ d.C W A xs.length xs ∧ xs.length ≤ c:=by
 rcases DataW.trod_slice ht h with ⟨rfl,rfl⟩ | ⟨ad,len,cap,els,rest,n,hn,rfl,rfl,_,hl,hm,hlen,hel,_,_⟩
 ·exact ⟨none,0,[],rfl,Kd.C_nil _ _,Nat.le_refl _⟩
 ·obtain ⟨xs,hxl,hp⟩:=list_of (P:=fun i (x : α)=>∃ cs',d.K W x cs' ∧ cs'.length = d.sz ∧ (∀ j u,cs'[j]? = some u → W.cell? (ad.add (i * d.sz + j)) = some u)) len (by
   intro i hlt;have hi:=hel i hlt;rw [List.getElem?_eq_getElem (by omega : i < els.length)] at hi;simp only [Option.bind_eq_some_iff] at hi;obtain ⟨cs',hc,ht'⟩:=hi;obtain ⟨x,hK,hl'⟩:=elem n (by omega) cs' _ ht';rw [hsz] at hc;obtain ⟨_,hcl,hat⟩:=World.cells?_some hc;refine ⟨x,cs',hK,hl',fun j u hj=>?_⟩
   have hjl : j < d.sz:=by rw [← hl'];exact (List.getElem?_eq_some_iff.1 hj).1
   have:=hat j hjl
   rw [← Go.Deep.add_add,this,hj])
  subst hxl
  exact ⟨some ad,cap,xs,rfl,⟨rfl,by unfold maxLen at hm;omega,fun _=>⟨ad,rfl,fun j p hj=>by
   obtain ⟨cs',hK,hl',hat⟩:=hp j p hj
   exact ⟨cs',hl',hK,hat⟩⟩⟩,hl⟩
theorem cells_call : Try.prog.cellsOf 25 = 4:=by kernel_rfl
theorem cells_int : Try.prog.cellsOf 3 = 1:=by kernel_rfl
theorem cells_calls : Try.prog.cellsOf 23 = 1:=by kernel_rfl
set_option maxRecDepth 100000 in
theorem elem_call {W : World} : ∀ N n,n < N → ∀ cs y,DataW.trod enc Try.prog W 0 (fun _=>true) true n 25 cs = some y → ∃ x : S25,k25.K W x cs ∧ cs.length = k25.sz:=by
 intro N
 induction N with
 | zero=>intro n hn;omega
 | succ N ih=>
   intro n hn cs y h;obtain ⟨xs,m,hm,_,hl,hlen,hf⟩:=DataW.trod_struct Try.underlying25 h;rw [cells_call] at hl
   match cs,hl with
   | [c0,c1,c2,c3],_=>
     have hx : xs.length = 4:=hlen;have f0:=fieldAt hf 0 3 0 1 rfl cells_int (by omega);have f1:=fieldAt hf 1 3 1 1 rfl cells_int (by omega);have f2:=fieldAt hf 2 3 2 1 rfl cells_int (by omega);have f3:=fieldAt hf 3 23 3 1 rfl cells_calls (by omega);simp only [List.drop,List.take] at f0 f1 f2 f3;obtain ⟨a0,e0,_,_⟩:=DataW.trod_int Try.underlying3 f0;obtain ⟨a1,e1,_,_⟩:=DataW.trod_int Try.underlying3 f1;obtain ⟨a2,e2,_,_⟩:=DataW.trod_int Try.underlying3 f2;obtain ⟨A,c,l,e3,hC,hc⟩:=open_kdN (d:=k25) Try.underlying23 (by rw [cells_call];rfl) (fun n' hn'=>ih n' (by omega)) f3
     cases e0;cases e1;cases e2;cases e3
     exact ⟨⟨a0,a1,a2,l⟩,k25_mk W ⟨a0,a1,a2,l⟩ hc hC,rfl⟩
theorem cells_u8 : Try.prog.cellsOf 5 = 1:=by kernel_rfl
theorem cells_bool : Try.prog.cellsOf 4 = 1:=by kernel_rfl
theorem cells_hash : Try.prog.cellsOf 29 = 32:=by kernel_rfl
theorem cells_vote : Try.prog.cellsOf 31 = 6:=by kernel_rfl
theorem cells_ext : Try.prog.cellsOf 33 = 49:=by kernel_rfl
set_option maxRecDepth 100000 in
theorem bytes_of {W : World} {n : Nat} {cs : List Value} {y : DataW H × List MemPlace} (h : DataW.trod enc Try.prog W 0 (fun _=>true) true n 29 cs = some y) : ∃ s : List UInt8,s.length = 32 ∧ cs = s.map cell:=by
 obtain ⟨xs,m,_,_,hl,hlen,hf⟩:=DataW.trod_array Try.underlying29 h;rw [cells_hash] at hl
 obtain ⟨s,hs,hp⟩:=list_of (P:=fun i (x : UInt8)=>cs[i]? = some (cell x)) 32 (by
  intro i hi;have h1:=hf i hi;rw [List.getElem?_eq_getElem (by omega : i < xs.length),cells_u8,Nat.mul_one] at h1;obtain ⟨k,e,_,hw⟩:=DataW.trod_int Try.underlying5 h1
  simp [Lit.wf,IntKind.min,IntKind.max,IntKind.signed,IntKind.bits] at hw
  rw [List.drop_eq_getElem_cons (by omega),List.take_succ_cons,List.take_zero] at e
  injection e with e _
  refine ⟨UInt8.ofNat k.toNat,?_⟩;rw [List.getElem?_eq_getElem (by omega),e]
  unfold cell
  congr 2
  have : (UInt8.ofNat k.toNat).toNat = k.toNat:=by
   rw [UInt8.toNat_ofNat'];omega
  rw [this];exact (Int.toNat_of_nonneg (by omega)).symm)
 refine ⟨s,hs,?_⟩
 apply List.ext_getElem?
 intro i
 by_cases hi : i < 32
 rotate_left
 ·rw [List.getElem?_eq_none (by omega),List.getElem?_eq_none (by simp;omega)]
 have h1:=hp i s[i] (List.getElem?_eq_getElem (by omega));rw [h1,List.getElem?_map,List.getElem?_eq_getElem (by omega)];rfl
set_option maxRecDepth 100000 in
theorem open_ext {W : World} {b0 : Nat} {v : Value} {d : DataW H} {p : List MemPlace} (hv : Value.okWide Try.prog W .any b0 33 v) (h : DataW.Trod enc Try.prog W 0 (fun _=>true) true 33 v d p) :
 ∃ (A : Option Addr) (c : Nat) (x : Ext),v = .agg (x.cells A c).toArray ∧ x.sum.length = 32 ∧ Kd.C k25 W A x.call.f3.length x.call.f3 ∧ x.call.f3.length ≤ c:=by
 obtain ⟨cs,rfl,hsz⟩:=okWide_struct Try.underlying33 hv;obtain ⟨fuel,hf⟩:=h;obtain ⟨L⟩:=cs
 have hv' : (Value.agg ⟨L⟩).cells.toList = L:=by simp [Value.cells]
 rw [hv'] at hf;obtain ⟨xs,m,_,_,hl,hlen,hf⟩:=DataW.trod_struct Try.underlying33 hf;rw [cells_ext] at hl;have hx : xs.length = 10:=hlen;have f0:=fieldAt hf 0 3 0 1 rfl cells_int (by omega);have f1:=fieldAt hf 1 3 1 1 rfl cells_int (by omega);have f2:=fieldAt hf 2 3 2 1 rfl cells_int (by omega);have f3:=fieldAt hf 3 3 3 1 rfl cells_int (by omega);have f4:=fieldAt hf 4 3 4 1 rfl cells_int (by omega);have f5:=fieldAt hf 5 3 5 1 rfl cells_int (by omega);have f6:=fieldAt hf 6 3 6 1 rfl cells_int (by omega);have f7:=fieldAt hf 7 29 7 32 rfl cells_hash (by omega);have f8:=fieldAt hf 8 31 39 6 rfl cells_vote (by omega);have f9:=fieldAt hf 9 25 45 4 rfl cells_call (by omega);obtain ⟨a0,e0,_,_⟩:=DataW.trod_int Try.underlying3 f0;obtain ⟨a1,e1,_,_⟩:=DataW.trod_int Try.underlying3 f1;obtain ⟨a2,e2,_,_⟩:=DataW.trod_int Try.underlying3 f2;obtain ⟨a3,e3,_,_⟩:=DataW.trod_int Try.underlying3 f3;obtain ⟨a4,e4,_,_⟩:=DataW.trod_int Try.underlying3 f4;obtain ⟨a5,e5,_,_⟩:=DataW.trod_int Try.underlying3 f5;obtain ⟨a6,e6,_,_⟩:=DataW.trod_int Try.underlying3 f6;obtain ⟨s,hs,e7⟩:=bytes_of f7;obtain ⟨ys,m8,_,_,hl8,hlen8,hf8⟩:=DataW.trod_struct Try.underlying31 f8;rw [cells_vote] at hl8;have hy : ys.length = 6:=hlen8;have v0:=fieldAt hf8 0 3 0 1 rfl cells_int (by omega);have v1:=fieldAt hf8 1 4 1 1 rfl cells_bool (by omega);have v2:=fieldAt hf8 2 3 2 1 rfl cells_int (by omega);have v3:=fieldAt hf8 3 3 3 1 rfl cells_int (by omega);have v4:=fieldAt hf8 4 3 4 1 rfl cells_int (by omega);have v5:=fieldAt hf8 5 3 5 1 rfl cells_int (by omega);obtain ⟨b0',i0,_,_⟩:=DataW.trod_int Try.underlying3 v0;obtain ⟨b1,i1,_⟩:=DataW.trod_bool Try.underlying4 v1;obtain ⟨b2,i2,_,_⟩:=DataW.trod_int Try.underlying3 v2;obtain ⟨b3,i3,_,_⟩:=DataW.trod_int Try.underlying3 v3;obtain ⟨b4,i4,_,_⟩:=DataW.trod_int Try.underlying3 v4;obtain ⟨b5,i5,_,_⟩:=DataW.trod_int Try.underlying3 v5;obtain ⟨x,hK,_⟩:=elem_call (m + 1) m (by omega) _ _ f9;obtain ⟨A,c,e9,hc,hC⟩:=k25_open hK;refine ⟨A,c,⟨a0,a1,a2,a3,a4,a5,a6,s,b0',b1,b2,b3,b4,b5,x⟩,?_,hs,hC,hc⟩
 have one : ∀ (i : Nat) (v : Value),(L.drop i).take 1 = [v] → L[i]? = some v:=fun i v h=>by
  have:=congrArg (fun l=>l[0]?) h
  simpa [List.getElem?_take,List.getElem?_drop] using this
 have gL : ∀ (i n : Nat) (M : List Value),(L.drop i).take n = M → ∀ j,j < n → L[i + j]? = M[j]? :=fun i n M h j hj=>by
  rw [← h,List.getElem?_take_of_lt hj,List.getElem?_drop]
 have p8 : ∀ (i : Nat) (v : Value),i < 6 → (((L.drop 39).take 6).drop i).take 1 = [v] → L[39 + i]? = some v:=fun i v hi h=>by
  have:=congrArg (fun l=>l[0]?) h;simp only [List.getElem?_take,List.getElem?_drop,List.getElem?_cons_zero] at this
  simpa [hi] using this
 have q:=x
 congr 1
 apply congrArg Array.mk
 apply List.ext_getElem?
 intro i;have hh:=Ext.tail_at ⟨a0,a1,a2,a3,a4,a5,a6,s,b0',b1,b2,b3,b4,b5,x⟩ A c hs
 by_cases h7 : i < 7
 ·have : (Ext.cells ⟨a0,a1,a2,a3,a4,a5,a6,s,b0',b1,b2,b3,b4,b5,x⟩ A c)[i]? = [Value.int .i64 a0,.int .i64 a1,.int .i64 a2,.int .i64 a3,.int .i64 a4,.int .i64 a5,.int .i64 a6][i]? :=by
   unfold Ext.cells;rw [List.getElem?_append_left (by simpa using h7)]
  rw [this]
  match i,h7 with
  | 0,_=>exact one 0 _ e0
  | 1,_=>exact one 1 _ e1
  | 2,_=>exact one 2 _ e2
  | 3,_=>exact one 3 _ e3
  | 4,_=>exact one 4 _ e4
  | 5,_=>exact one 5 _ e5
  | 6,_=>exact one 6 _ e6
 by_cases h39 : i < 39
 ·obtain ⟨j,rfl⟩ : ∃ j,i = 7 + j:=⟨i - 7,by omega⟩;rw [gL 7 32 _ e7 j (by omega)]
  unfold Ext.cells
  rw [List.getElem?_append_right (by simp),List.getElem?_append_left (by simp;omega)]
  simp
 obtain ⟨j,rfl⟩ : ∃ j,i = 39 + j:=⟨i - 39,by omega⟩;rw [hh j]
 by_cases h10 : j < 10
 rotate_left
 ·rw [List.getElem?_eq_none (by omega),List.getElem?_eq_none (by simp;omega)]
 match j,h10 with
 | 0,_=>exact p8 0 _ (by omega) i0
 | 1,_=>exact p8 1 _ (by omega) i1
 | 2,_=>exact p8 2 _ (by omega) i2
 | 3,_=>exact p8 3 _ (by omega) i3
 | 4,_=>exact p8 4 _ (by omega) i4
 | 5,_=>exact p8 5 _ (by omega) i5
 | 6,_=>exact gL 45 4 _ e9 0 (by omega)
 | 7,_=>exact gL 45 4 _ e9 1 (by omega)
 | 8,_=>exact gL 45 4 _ e9 2 (by omega)
 | 9,_=>exact gL 45 4 _ e9 3 (by omega)
end Go.Proofs.Ytilckocpgififaa.ArgCall
