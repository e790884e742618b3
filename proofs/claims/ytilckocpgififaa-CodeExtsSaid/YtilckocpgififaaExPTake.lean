/- A slice of bytes that came in, as the printed functions read it. -/
import Derived.Deep.Slices
import Derived.Deep.Fields
import Derived.ChangeSame
import Derived.Lib.SmallJoins
import Derived.Test.YtilckocpgififaaExPNum
import Derived.WalkKit
import Derived.ProofKit
import Derived.ChangeAt
import Derived.OpenShut
import Derived.Test.YtilckocpgififaaExHStep
import Derived.OneCell
import Derived.Laws.Tables
import Derived.Deep.MidRow
namespace Go.Proofs.Ytilckocpgififaa.ArgBytes
open Go.ChangeShapes Go.WideShapes Go.ChangeAt Go.RowKit Go.Proofs.Ytilckocpgififaa.G Go.Proofs.Ytilckocpgififaa.PNum Go.Proofs.YtilckocpgififaaW.PrintWords
set_option linter.unusedVariables false
set_option maxRecDepth 100000
variable {H : Type} {enc : TypeId × Value → H}
theorem open_row {k : IntKind} {t e : TypeId} (ht : Try.prog.underlying t = some (.slice e)) (he : Try.prog.underlying e = some (.int k)) (hc1 : Try.prog.cellsOf e = 1) {W : World} {b0 : Nat} {v : Value} {d : DataW H} {p : List MemPlace}
 (hv : Value.okWide Try.prog W .any b0 t v) (h : DataW.Trod enc Try.prog W 0 (fun _=>true) true t v d p) :
 ∃ (A : Option Addr) (len cap : Nat) (l : List Int),v = .slice A len cap ∧ (Kd.C (Kd.int k) W A l.length l ∧ l.length ≤ cap) ∧ len = l.length ∧ ∀ x ∈ l,(Lit.int k x).wf = true:=by
 obtain ⟨a,len,cap,rfl⟩:=okWide_slice ht hv;obtain ⟨fuel,hf⟩:=h
 rcases open_ints ht he hc1 hf with ⟨hcs,_⟩ | ⟨x,l',c',zs,hcs,_,hl,hm,hz,_,hcell,hwz⟩
 ·simp [Value.cells] at hcs
  obtain ⟨rfl,rfl,rfl⟩:=hcs;exact ⟨none,0,0,[],rfl,⟨Kd.C_nil _ _,Nat.le_refl _⟩,rfl,fun x hx=>by cases hx⟩
 ·simp [Value.cells] at hcs
  obtain ⟨rfl,rfl,rfl⟩:=hcs;obtain ⟨l,hle,hr,hm',hw,hc⟩:=ReadsInt.ofRowC (w:=W) (k:=k) (a:=some x) (len:=len) (cap:=cap) (zs:=zs) (.inr ⟨x,rfl,hl,hm,by simpa using hz,hcell,hwz⟩);subst hle;exact ⟨some x,l.length,cap,l,rfl,⟨Kd.C_of_reads (d:=(0 : Int)) (h1:=fun _=>rfl) hr,hc⟩,rfl,hw⟩
theorem open_bytes {W : World} {b0 : Nat} {v : Value} {d : DataW H} {p : List MemPlace} (hv : Value.okWide Try.prog W .any b0 38 v) (h : DataW.Trod enc Try.prog W 0 (fun _=>true) true 38 v d p) :
 ∃ (A : Option Addr) (len cap : Nat) (l : List Int),v = .slice A len cap ∧ (Kd.C (Kd.int .u8) W A l.length l ∧ l.length ≤ cap) ∧ len = l.length ∧ IsBytes l:=by
 obtain ⟨A,len,cap,l,e1,e2,e3,e4⟩:=open_row Try.underlying38 Try.underlying5 (by kernel_rfl) hv h;refine ⟨A,len,cap,l,e1,e2,e3,fun c hc=>?_⟩;have:=e4 c hc
 simp [Lit.wf,IntKind.min,IntKind.max,IntKind.signed,IntKind.bits] at this
 omega
end Go.Proofs.Ytilckocpgififaa.ArgBytes
/- Values that lie in a block of their own, from its head on, and may be written: what a store of one cell, of a stretch, turns. -/
namespace Go.Proofs.Ytilckocpgififaa.G
open Go.RowKit Go.Proofs.YtilckocpgififaaW.PrintWords Go.Proofs.YtilckocpgififaaW.PrintMore
set_option linter.unusedVariables false
set_option linter.unusedSimpArgs false
structure Lies (w : World) (g : Nat) (L : List Value) : Prop where
 range : w.rangeAt g 0 L
 there : w.there g 0 L.length
theorem Lies.cell {w : World} {g : Nat} {L : List Value} (h : Lies w g L) {i : Nat} {v : Value} (hi : L[i]? = some v) : w.cell? ⟨g,i,none⟩ = some v:=by
 have:=h.range i v hi;rwa [Nat.zero_add] at this
theorem Lies.frozen {w : World} {g : Nat} {L : List Value} (h : Lies w g L) (i : Nat) (hi : i < L.length) : w.frozen? ⟨g,i,none⟩ = false:=by
 have:=(h.there i hi).2;rwa [Nat.zero_add] at this
theorem Lies.box {w : World} {g t : Nat} {L : List Value} (h : w.heap[g]? = some (.cells L.toArray t (0,0))) : Lies w g L:=
 ⟨fun j v hj=>by simp only [World.cell?,h];simpa using hj,fun j hj=>by
  constructor
  ·rw [Nat.zero_add,blk_cell h j];simp [hj]
  ·rw [Nat.zero_add];exact blk_frozen h j⟩
theorem Lies.splice {w : World} {g : Nat} {L : List Value} (h : Lies w g L) (o : Nat) (vs : List Value) (ho : o + vs.length ≤ L.length) : Lies (w.setCells g o vs) g (L.take o ++ vs ++ L.drop (o + vs.length)):=by
 have hlen : (L.take o ++ vs ++ L.drop (o + vs.length)).length = L.length:=by simp;omega
 refine ⟨fun j v hj=>?_,by rw [hlen];exact World.there_setCells h.there g o _⟩;rw [Nat.zero_add]
 by_cases h1 : j < o
 ·rw [List.append_assoc,List.getElem?_append_left (by simp;omega),List.getElem?_take_of_lt h1] at hj;rw [World.cell?_setCells_out g _ o w ⟨g,j,none⟩ (fun _ _=> .inl h1)];exact h.cell hj
 by_cases h2 : j < o + vs.length
 rotate_left
 ·rw [List.getElem?_append_right (by simp;omega),List.getElem?_drop] at hj;rw [World.cell?_setCells_out g _ o w ⟨g,j,none⟩ (fun _ _=> .inr (by show o + _ ≤ j;omega))];refine h.cell ?_;rw [← hj]
  congr 1
  simp;omega
 rw [List.append_assoc,List.getElem?_append_right (by simp;omega),List.getElem?_append_left (by simp;omega)] at hj;obtain ⟨i,rfl⟩ : ∃ i,j = o + i:=⟨j - o,by omega⟩
 have hi : i < vs.length:=by omega
 rw [World.cell?_setCells_in g _ o w (fun k hk=>by
  have:=(h.there (o + k) (by omega)).1
  rwa [Nat.zero_add] at this) i hi]
 rw [← hj,show o + i - (L.take o).length = i by simp;omega,List.getElem?_eq_getElem hi]
theorem Lies.set {w : World} {g : Nat} {L : List Value} (h : Lies w g L) (i : Nat) (hi : i < L.length) (v : Value) : Lies (w.setCell ⟨g,i,none⟩ v) g (L.set i v):=by
 refine ⟨fun j u hj=>?_,by rw [List.length_set];exact World.there_setCells h.there g i [v]⟩;rw [Nat.zero_add]
 by_cases e : i = j
 rotate_left
 ·rw [List.getElem?_set_ne e] at hj;rw [World.cell?_setCell_other w _ _ _ (fun q=>e (by cases q;rfl))];exact h.cell hj
 subst e;have:=(h.there i hi).1;rw [Nat.zero_add] at this;rw [List.getElem?_set_self hi] at hj;cases hj;obtain ⟨u0,hu0⟩:=Option.isSome_iff_exists.1 this;exact World.cell?_setCell_same w _ _ hu0
theorem Lies.of_block {w w' : World} {g : Nat} {L : List Value} (h : Lies w g L) (hb : w'.heap[g]? = w.heap[g]?) : Lies w' g L:=
 ⟨fun j u hj=>(World.cell?_of_block (a:=⟨g,0 + j,none⟩) hb).trans (h.range j u hj),fun j hj=>by
  have:=h.there j hj
  exact ⟨by rw [World.cell?_of_block (a:=⟨g,0 + j,none⟩) hb];exact this.1,by rw [World.frozen?_of_block (a:=⟨g,0 + j,none⟩) hb];exact this.2⟩⟩
theorem Lies.set_far {w : World} {g b : Nat} {L : List Value} (h : Lies w g L) (hne : g ≠ b) (i : Nat) (v : Value) : Lies (w.setCell ⟨b,i,none⟩ v) g L:=h.of_block (Below.heap_setCell w ⟨b,i,none⟩ v g hne)
theorem setCells_far {b k : Nat} (hne : k ≠ b) : ∀ (L : List Value) (o : Nat) (w : World),(w.setCells b o L).heap[k]? = w.heap[k]?
 | [],_,_=>rfl
 | v :: L,o,w=>(setCells_far hne L (o + 1) _).trans (Below.heap_setCell w ⟨b,o,none⟩ v k hne)
theorem Lies.splice_far {w : World} {g b : Nat} {L : List Value} (h : Lies w g L) (hne : g ≠ b) (o : Nat) (vs : List Value) : Lies (w.setCells b o vs) g L:=h.of_block (setCells_far hne vs o w)
theorem Lies.drew {w : World} {g : Nat} {L : List Value} (h : Lies w g L) : Lies w.drew g L:=⟨(World.rangeAt_drew _ _ _ _).2 h.range,(World.there_drew _ _ _ _).2 h.there⟩
theorem Lies.lt {w : World} {g : Nat} {L : List Value} (h : Lies w g L) (h0 : 0 < L.length) : g < w.heap.size:=World.block_lt_of_cell? w _ (h.cell (List.getElem?_eq_getElem h0))
theorem Lies.below {w w' : World} {g B : Nat} {L : List Value} (h : Lies w g L) (hb : Below B w w') (hg : g < B) : Lies w' g L:=h.of_block (hb.block g hg)
theorem Lies.part_there {w : World} {g : Nat} {L : List Value} (h : Lies w g L) (o n : Nat) (hn : o + n ≤ L.length) : w.there g o n:=fun j hj=>by
 have:=h.there (o + j) (by omega);rwa [Nat.zero_add] at this
end Go.Proofs.Ytilckocpgififaa.G
/- What compact.Take tells, plainly. -/
namespace Go.Proofs.Ytilckocpgififaa.PNum
open Go.RowKit Go.Proofs.Ytilckocpgififaa.G Go.Proofs.YtilckocpgififaaW.PrintWords Go.Proofs.YtilckocpgififaaW.PrintMore
set_option linter.unusedVariables false
set_option linter.unusedSimpArgs false
def headSize (c : Int) : Nat:=if c % 4 = 0 then 1 else if c % 4 = 1 then 2 else if c % 4 = 2 then 4 else 5 + (c / 4).toNat
def valAt (c : Int) (l : List Int) : Int:=if c % 4 = 3 then wrap64 (valB ((l.take (headSize c)).drop 1)) else valB (l.take (headSize c)) / 4
def takeAt (c : Int) (l : List Int) : Option (Int × Nat):=
 if 9 < headSize c ∨ l.length < headSize c then none
 else if valAt c l < 0 ∨ 4611686018427387904 < valAt c l ∨ sizeN (valAt c l) ≠ headSize c then none else some (valAt c l,headSize c)
def takeN : List Int → Option (Int × Nat)
 | []=>none
 | c :: r=>takeAt c (c :: r)
def outT : Option (Int × Nat) → Int × Int × Bool
 | none=>(0,0,false)
 | some (n,s)=>(n,(s : Int),true)
theorem pow_256_4 : (256 : Int) ^ 4 = 4294967296:=by decide
theorem pow_256_8 : (256 : Int) ^ 8 = 18446744073709551616:=by decide
/-! ### what is told is what was put -/
theorem takeN_put {n : Int} (h0 : 0 ≤ n) (h : n ≤ 4611686018427387904) (more : List Int) : takeN (numB n ++ more) = some (n,sizeN n):=by
 have hh:=heldN_in h0 h;have hw:=widthN_range n
 have key : ∀ (c : Int) (r : List Int),numB n = c :: r → headSize c = sizeN n → valAt c (numB n ++ more) = n → takeN (numB n ++ more) = some (n,sizeN n):=by
  intro c r he hs hv;have hl:=numB_length n;have hz:=sizeN_range n
  have e : takeN (numB n ++ more) = takeAt c (numB n ++ more):=by rw [he];rfl
  rw [e]
  unfold takeAt
  rw [hv,hs,if_neg (by rw [List.length_append];omega),if_neg (by simp;omega)]
 have htake : ∀ s,sizeN n = s → (numB n ++ more).take s = numB n:=by
  intro s hs;rw [← hs,← numB_length n];exact List.take_left'  rfl
 by_cases h1 : n < 64
 ·have e : numB n = [4 * n]:=by
   unfold numB;rw [hh,if_pos h1];simp [lowB];omega
  have es : sizeN n = 1:=by unfold sizeN;rw [hh,if_pos h1]
  have hc : headSize (4 * n) = 1:=by unfold headSize;rw [if_pos (by omega)]
  refine key _ _ e (by rw [hc,es]) ?_
  unfold valAt
  rw [if_neg (by omega),hc,htake 1 es,e]
  simp [valB]
 by_cases h2 : n < 16384
 ·have e : numB n = [(4 * n + 1) % 256,(4 * n + 1) / 256 % 256]:=by unfold numB;rw [hh,if_neg h1,if_pos h2];rfl
  have ev : valB (numB n) = 4 * n + 1:=by
   unfold numB;rw [hh,if_neg h1,if_pos h2];exact valB_lowB 2 _ (by omega) (by simp;omega)
  have es : sizeN n = 2:=by unfold sizeN;rw [hh,if_neg h1,if_pos h2]
  have hc : headSize ((4 * n + 1) % 256) = 2:=by unfold headSize;rw [if_neg (by omega),if_pos (by omega)]
  refine key _ _ e (by rw [hc,es]) ?_
  unfold valAt
  rw [if_neg (by omega),hc,htake 2 es,ev]
  omega
 by_cases h3 : n < 1073741824
 ·have e : numB n = (4 * n + 2) % 256 :: lowB ((4 * n + 2) / 256) 3:=by unfold numB;rw [hh,if_neg h1,if_neg h2,if_pos h3];rfl
  have ev : valB (numB n) = 4 * n + 2:=by
   unfold numB;rw [hh,if_neg h1,if_neg h2,if_pos h3];exact valB_lowB 4 _ (by omega) (by rw [pow_256_4];omega)
  have es : sizeN n = 4:=by unfold sizeN;rw [hh,if_neg h1,if_neg h2,if_pos h3]
  have hc : headSize ((4 * n + 2) % 256) = 4:=by unfold headSize;rw [if_neg (by omega),if_neg (by omega),if_pos (by omega)]
  refine key _ _ e (by rw [hc,es]) ?_
  unfold valAt
  rw [if_neg (by omega),hc,htake 4 es,ev]
  omega
 have e : numB n = (4 * ((widthN n : Int) - 4) + 3) :: lowB n (widthN n):=by unfold numB;rw [hh,if_neg h1,if_neg h2,if_neg h3]
 have es : sizeN n = 1 + widthN n:=by unfold sizeN;rw [hh,if_neg h1,if_neg h2,if_neg h3]
 have hc : headSize (4 * ((widthN n : Int) - 4) + 3) = 1 + widthN n:=by unfold headSize;rw [if_neg (by omega),if_neg (by omega),if_neg (by omega)];omega
 have hb : n < 256 ^ widthN n:=by
  have hwn : widthN n = 4 ∧ n < 4294967296 ∨ widthN n = 5 ∧ n < 1099511627776 ∨ widthN n = 6 ∧ n < 281474976710656 ∨ widthN n = 7 ∧ n < 72057594037927936 ∨ widthN n = 8:=by
   unfold widthN;(repeat' split) <;> omega
  rcases hwn with ⟨w,hn⟩ | ⟨w,hn⟩ | ⟨w,hn⟩ | ⟨w,hn⟩ | w <;> rw [w]
  ·exact hn
  ·exact hn
  ·exact hn
  ·exact hn
  ·rw [pow_256_8];omega
 refine key _ _ e (by rw [hc,es]) ?_
 unfold valAt
 rw [if_pos (by omega),hc,htake _ es,e,List.drop_one,List.tail_cons,valB_lowB _ n h0 hb];exact wrap_in h0 (by omega)
/-! ### what is told was put -/
theorem takeN_tells {l : List Int} (hl : IsBytes l) {n : Int} {s : Nat} (h : takeN l = some (n,s)) : 0 ≤ n ∧ n ≤ 4611686018427387904 ∧ s = sizeN n ∧ s ≤ l.length ∧ l.take s = numB n:=by
 cases l with
 | nil=>cases h
 | cons c r=>
   have hc:=hl c (by simp)
   change takeAt c (c :: r) = some (n,s) at h
   unfold takeAt at h
   by_cases ha : 9 < headSize c ∨ (c :: r).length < headSize c
   ·rw [if_pos ha] at h;cases h
   rw [if_neg ha] at h
   by_cases hb : valAt c (c :: r) < 0 ∨ 4611686018427387904 < valAt c (c :: r) ∨ sizeN (valAt c (c :: r)) ≠ headSize c
   ·rw [if_pos hb] at h;cases h
   rw [if_neg hb] at h
   injection h with h
   injection h with hn hs
   have q0 : 0 ≤ n:=by omega
   have q1 : n ≤ 4611686018427387904:=by omega
   have hss : sizeN n = headSize c:=by rw [← hn];omega
   have hh:=heldN_in q0 q1
   have hlen : s ≤ (c :: r).length:=by omega
   refine ⟨q0,q1,by omega,hlen,?_⟩;have hw:=widthN_range n
   have htl : ((c :: r).take s).length = s:=by rw [List.length_take];omega
   have hbt : IsBytes ((c :: r).take s):=hl.take s;have hlow:=lowB_valB _ hbt;rw [htl] at hlow
   have hs1 : 1 ≤ s:=by have:=sizeN_range n;omega
   have hcons : (c :: r).take s = c :: r.take (s - 1):=by
    obtain ⟨q,rfl⟩ : ∃ q,s = q + 1:=⟨s - 1,by omega⟩
    simp
   have hvm : valB ((c :: r).take s) = c + 256 * valB (r.take (s - 1)):=by rw [hcons];rfl
   rw [hs] at hss
   unfold valAt at hn
   rw [hs] at hn
   unfold headSize at hs
   by_cases c0 : c % 4 = 0
   ·rw [if_pos c0] at hs;rw [if_neg (by omega)] at hn
    have hn1 : n < 64:=by
     unfold sizeN at hss;rw [hh,← hs] at hss
     by_cases h1 : n < 64
     ·exact h1
     rw [if_neg h1] at hss;(repeat' split at hss) <;> omega
    unfold numB
    rw [hh,if_pos hn1,← hlow,hvm,← hs];rw [← hs] at hn hvm
    congr 1
    omega
   rw [if_neg c0] at hs
   by_cases c1 : c % 4 = 1
   ·rw [if_pos c1] at hs;rw [if_neg (by omega)] at hn
    have hn1 : ¬ n < 64 ∧ n < 16384:=by
     unfold sizeN at hss;rw [hh,← hs] at hss
     by_cases h1 : n < 64
     ·rw [if_pos h1] at hss;omega
     rw [if_neg h1] at hss
     by_cases h2 : n < 16384
     ·exact ⟨h1,h2⟩
     rw [if_neg h2] at hss;(repeat' split at hss) <;> omega
    unfold numB
    rw [hh,if_neg hn1.1,if_pos hn1.2,← hlow,hvm,← hs];rw [← hs] at hn hvm
    congr 1
    omega
   rw [if_neg c1] at hs
   by_cases c2 : c % 4 = 2
   ·rw [if_pos c2] at hs;rw [if_neg (by omega)] at hn
    have hn1 : ¬ n < 64 ∧ ¬ n < 16384 ∧ n < 1073741824:=by
     unfold sizeN at hss;rw [hh,← hs] at hss
     by_cases h1 : n < 64
     ·rw [if_pos h1] at hss;omega
     rw [if_neg h1] at hss
     by_cases h2 : n < 16384
     ·rw [if_pos h2] at hss;omega
     rw [if_neg h2] at hss
     by_cases h3 : n < 1073741824
     ·exact ⟨h1,h2,h3⟩
     rw [if_neg h3] at hss;omega
    unfold numB
    rw [hh,if_neg hn1.1,if_neg hn1.2.1,if_pos hn1.2.2,← hlow,hvm,← hs];rw [← hs] at hn hvm
    congr 1
    omega
   rw [if_neg c2] at hs;rw [if_pos (by omega),hcons,List.drop_one,List.tail_cons] at hn
   have hn1 : ¬ n < 64 ∧ ¬ n < 16384 ∧ ¬ n < 1073741824:=by
    unfold sizeN at hss;rw [hh] at hss
    by_cases h1 : n < 64
    ·rw [if_pos h1] at hss;omega
    rw [if_neg h1] at hss
    by_cases h2 : n < 16384
    ·rw [if_pos h2] at hss;omega
    rw [if_neg h2] at hss
    by_cases h3 : n < 1073741824
    rotate_left
    ·exact ⟨h1,h2,h3⟩
    rw [if_pos h3] at hss;omega
   have hsw : s = 1 + widthN n:=by
    unfold sizeN at hss;rw [hh,if_neg hn1.1,if_neg hn1.2.1,if_neg hn1.2.2] at hss;omega
   have hr : IsBytes (r.take (s - 1)):=fun x hx=>hl x (List.mem_cons_of_mem _ (List.mem_of_mem_take hx))
   have hrl : (r.take (s - 1)).length = widthN n:=by rw [List.length_take];simp at hlen;omega
   have hb:=valB_bound _ hr
   have hp : (256 : Int) ^ (r.take (s - 1)).length ≤ 18446744073709551616:=by
    rw [hrl]
    have hx : widthN n = 4 ∨ widthN n = 5 ∨ widthN n = 6 ∨ widthN n = 7 ∨ widthN n = 8:=by omega
    rcases hx with x | x | x | x | x <;> rw [x] <;> decide
   have hv : valB (r.take (s - 1)) = n:=by
    have hx : valB (r.take (s - 1)) < 18446744073709551616:=Int.lt_of_lt_of_le hb.2 hp;have hy:=hb.1
    unfold wrap64 at hn
    omega
   have hlr:=lowB_valB _ hr;rw [hv,hrl] at hlr
   unfold numB
   rw [hh,if_neg hn1.1,if_neg hn1.2.1,if_neg hn1.2.2,hcons,hlr]
   congr 1
   omega
end Go.Proofs.Ytilckocpgififaa.PNum
