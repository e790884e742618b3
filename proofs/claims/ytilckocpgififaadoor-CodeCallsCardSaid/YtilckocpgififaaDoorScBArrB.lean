/- What the readers of both sides share: bytes that are left, a number, a row taken off them, plainly; worlds that are kept but for some blocks. -/
import Derived.Test.YtilckocpgififaaDoorScHLies
import Derived.Test.YtilckocpgififaaDoorScHSeq
import Derived.Test.YtilckocpgififaaDoorScPRow
import Derived.Test.YtilckocpgififaaDoorScHSameCall
import Derived.Test.YtilckocpgififaaDoorScGx3
import Derived.Test.YtilckocpgififaaDoorScGx7
import Derived.Test.YtilckocpgififaaDoorScHStep
import Derived.Test.YtilckocpgififaaDoorScGx6
import Derived.Test.YtilckocpgififaaDoorScGx9
import Derived.Deep.RegionHeld3
import Derived.Test.YtilckocpgififaaDoorScBWords
import Derived.Maps.AppendAt
import Derived.Lib.SliceRun
import Derived.Test.YtilckocpgififaaDoorScBArr
namespace Go.Proofs.YtilckocpgififaaDoor.G
open Go.RowKit Go.Shelf Go.Proofs.YtilckocpgififaaDoorW.PrintWords Go.Proofs.YtilckocpgififaaDoorW.PrintMore Go.Proofs.YtilckocpgififaaDoor.PNum
set_option linter.unusedVariables false
set_option linter.unusedSimpArgs false
theorem cut_tail (t e : TypeId) {P : Program} {i : TypeInfo} (ht : P.underlying t = some (.slice e)) (hi : P.info? e = some i) (hsz : i.size = 1) (A : Option Addr) (c : Nat) (xs : List Int) (j : Nat) (hm : j ≤ xs.length) (hc : xs.length ≤ c) :
 ∃ A' : Option Addr,(∀ W : World,(Instr.slice t (.slice A xs.length c) (some (.int .i64 (j : Int))) none none).run P W = .ok (.slice A' (xs.length - j) (c - j)) W) ∧
   (∀ (k : IntKind) (w : World),Kd.C (Kd.int k) w A xs.length xs → Kd.C (Kd.int k) w A' (xs.drop j).length (xs.drop j)) ∧ xs.length - j ≤ c - j ∧ (∀ ad',A' = some ad' → ∃ ad,A = some ad ∧ ad'.block = ad.block):=by
 refine ⟨if c = j then A else A.map (·.add (j * 1)),fun W=>?_,fun k w h=>Kd.C_drop h hm hc,by omega,?_⟩
 ·exact cut_from (P:=P) t e .i64 ht hi 1 hsz A xs.length c (j : Int) (by omega) (by omega) W
 ·intro ad' e'
  by_cases h : c = j
  ·rw [if_pos h] at e';exact ⟨ad',e',rfl⟩
  rw [if_neg h] at e'
  cases A with
  | none=>cases e'
  | some ad=>simp at e';subst e';exact ⟨ad,rfl,addr_block _ _⟩
theorem C_stays {k : IntKind} {W W' : World} {A : Option Addr} {n : Nat} {xs : List Int} (h : Kd.C (Kd.int k) W A n xs) (hb : ∀ ad,A = some ad → 0 < n → W'.heap[ad.block]? = W.heap[ad.block]?) : Kd.C (Kd.int k) W' A n xs:=by
 refine ⟨h.1,h.2.1,fun h0=>?_⟩;obtain ⟨ad,e,hc⟩:=h.2.2 h0;refine ⟨ad,e,fun j p hj=>?_⟩;obtain ⟨c,hl,hr,hcell⟩:=hc j p hj;refine ⟨c,hl,hr,fun i u hu=>?_⟩;have hq:=World.cell?_of_block (w:=W) (w':=W') (a:=ad.add (j * (Kd.int k).sz + i)) (by rw [addr_block];exact hb ad e h0);rw [hq];exact hcell i u hu
/-! ### worlds that are kept but for some blocks -/
structure Kept (bad : Nat → Prop) (w w' : World) : Prop where
 os : w'.os = w.os
 tape : w'.tape = w.tape
 output : w'.output = w.output
 size : w.heap.size ≤ w'.heap.size
 block : ∀ k,k < w.heap.size → ¬ bad k → w'.heap[k]? = w.heap[k]?
theorem Kept.refl (bad : Nat → Prop) (w : World) : Kept bad w w:=⟨rfl,rfl,rfl,Nat.le_refl _,fun _ _ _=>rfl⟩
theorem Kept.below {bad : Nat → Prop} {w w' w'' : World} (h : Kept bad w w') (k : Below w'.heap.size w' w'') : Kept bad w w'':=
 ⟨k.os.trans h.os,k.tape.trans h.tape,k.output.trans h.output,Nat.le_trans h.size k.size,fun b hb hne=>(k.block b (Nat.lt_of_lt_of_le hb h.size)).trans (h.block b hb hne)⟩
theorem Kept.set {bad : Nat → Prop} {w w' : World} (h : Kept bad w w') {g : Nat} (hg : bad g) (i : Nat) (v : Value) : Kept bad w (w'.setCell ⟨g,i,none⟩ v):=
 ⟨h.os,h.tape,h.output,by rw [World.size_setCell];exact h.size,fun k hk hne=>(Below.heap_setCell w' ⟨g,i,none⟩ v k (fun e=>hne (by rw [show k = g from e];exact hg))).trans (h.block k hk hne)⟩
theorem Kept.drew {bad : Nat → Prop} {w w' : World} (h : Kept bad w w') : Kept bad w w'.drew:=⟨h.os,h.tape,h.output,h.size,h.block⟩
theorem Kept.to_below {bad : Nat → Prop} {B : Nat} {w0 w w' : World} (h : Kept bad w w') (hb : Below B w0 w) (hB : B ≤ w.heap.size) (hn : ∀ k,bad k → B ≤ k) : Below B w0 w':=
 ⟨h.os.trans hb.os,h.tape.trans hb.tape,h.output.trans hb.output,Nat.le_trans hb.size h.size,fun k hk=>(h.block k (Nat.lt_of_lt_of_le hk hB) (fun q=>by have:=hn k q;omega)).trans (hb.block k hk)⟩
theorem Lies.kept {bad : Nat → Prop} {w w' : World} {g : Nat} {L : List Value} (h : Lies w g L) (hk : Kept bad w w') (h0 : 0 < L.length) (hg : ¬ bad g) : Lies w' g L:=h.of_block (hk.block g (h.lt h0) hg)
/-! ### numbers off bytes -/
def numT (l : List Int) : Int × Nat × Bool:=match takeN l with
 | some (v,s)=>(v,s,true)
 | none=>(0,0,false)
theorem numT_out (l : List Int) : outT (takeN l) = ((numT l).1,((numT l).2.1 : Int),(numT l).2.2):=by
 unfold numT
 cases takeN l <;> rfl
theorem numT_size {l : List Int} (hl : IsBytes l) : (numT l).2.1 ≤ l.length:=by
 unfold numT
 cases h : takeN l with
 | none=>exact Nat.zero_le _
 | some q=>obtain ⟨v,s⟩:=q;exact (takeN_tells hl h).2.2.2.1
theorem numT_range {l : List Int} (hl : IsBytes l) : 0 ≤ (numT l).1 ∧ (numT l).1 ≤ 4611686018427387904:=by
 unfold numT
 cases h : takeN l with
 | none=>exact ⟨Int.le_refl _,by decide⟩
 | some q=>obtain ⟨v,s⟩:=q;exact ⟨(takeN_tells hl h).1,(takeN_tells hl h).2.1⟩
def rowT (l : List Int) : List Int × Nat × Bool:=match cutN l with
 | some (p,s)=>(p,s,true)
 | none=>([],0,false)
theorem rowT_out (l : List Int) : outC (cutN l) = ((rowT l).1,((rowT l).2.1 : Int),(rowT l).2.2):=by
 unfold rowT
 cases cutN l <;> rfl
theorem rowT_size {l : List Int} (hl : IsBytes l) : (rowT l).2.1 ≤ l.length ∧ (rowT l).1.length ≤ l.length ∧ IsBytes (rowT l).1:=by
 unfold rowT cutN
 cases h : takeN l with
 | none=>exact ⟨Nat.zero_le _,Nat.zero_le _,fun c hc=>by cases hc⟩
 | some q=>
   obtain ⟨v,s⟩:=q;have ht:=takeN_tells hl h
   by_cases hlt : (l.length : Int) - s < v
   ·simp only [if_pos hlt];exact ⟨Nat.zero_le _,Nat.zero_le _,fun c hc=>by cases hc⟩
   simp only [if_neg hlt];refine ⟨by omega,by rw [List.length_drop,List.length_take];omega,(hl.take _).drop _⟩
/-! ### a reader in memory -/
structure ReadAt (B : Nat) (w : World) (R g1 g2 : Nat) (A : Option Addr) (c : Nat) (l : List Int) (ok : Bool) (L1 L2 : List Value) : Prop where
 reader : Lies w R [.slice A l.length c,.bool ok]
 cap : l.length ≤ c
 row : Kd.C (Kd.int .u8) w A l.length l
 far : ∀ ad,A = some ad → 0 < l.length → ad.block < B
 bytes : IsBytes l
 short : l.length < 140737488355328
 one : Lies w g1 L1
 two : Lies w g2 L2
 atR : B ≤ R
 at1 : B ≤ g1
 at2 : B ≤ g2
 r1 : g1 ≠ R
 r2 : g2 ≠ R
 g12 : g1 ≠ g2
 p1 : 0 < L1.length
 p2 : 0 < L2.length
section
variable {B : Nat} {w w' : World} {R g1 g2 : Nat} {A A' : Option Addr} {c c' : Nat} {l l' : List Int} {ok : Bool} {L1 L2 : List Value}
theorem ReadAt.below (h : ReadAt B w R g1 g2 A c l ok L1 L2) (hb : Below w.heap.size w w') : ReadAt B w' R g1 g2 A c l ok L1 L2:=
 { h with reader:=h.reader.below hb (h.reader.lt (by simp)),row:=Kd.C_below h.row hb,one:=h.one.below hb (h.one.lt h.p1),two:=h.two.below hb (h.two.lt h.p2) }
theorem ReadAt.drew (h : ReadAt B w R g1 g2 A c l ok L1 L2) : ReadAt B w.drew R g1 g2 A c l ok L1 L2:=
 { h with reader:=h.reader.drew,row:=Kd.C_drew h.row,one:=h.one.drew,two:=h.two.drew }
theorem ReadAt.swap (h : ReadAt B w R g1 g2 A c l ok L1 L2) : ReadAt B w R g2 g1 A c l ok L2 L1:=
 { h with one:=h.two,two:=h.one,at1:=h.at2,at2:=h.at1,r1:=h.r2,r2:=h.r1,g12:=h.g12.symm,p1:=h.p2,p2:=h.p1 }
theorem ReadAt.row_set (h : ReadAt B w R g1 g2 A c l ok L1 L2) {g : Nat} (hg : B ≤ g) (i : Nat) (v : Value) : Kd.C (Kd.int .u8) (w.setCell ⟨g,i,none⟩ v) A l.length l:=
 C_stays h.row (fun ad e hn=>Below.heap_setCell w ⟨g,i,none⟩ _ _ (fun q=>by have:=h.far ad e hn;have q' : ad.block = g:=q;omega))
theorem ReadAt.setOk (h : ReadAt B w R g1 g2 A c l ok L1 L2) (b : Bool) : ReadAt B (w.setCell ⟨R,1,none⟩ (.bool b)) R g1 g2 A c l b L1 L2:=
 { h with reader:=h.reader.set 1 (by simp) _,row:=h.row_set h.atR _ _,one:=h.one.set_far h.r1 _ _,two:=h.two.set_far h.r2 _ _ }
theorem ReadAt.setRest (h : ReadAt B w R g1 g2 A c l ok L1 L2) (hc : l'.length ≤ c') (hr : Kd.C (Kd.int .u8) w A' l'.length l') (hl : IsBytes l') (hs : l'.length < 140737488355328)
 (hA : ∀ ad',A' = some ad' → 0 < l'.length → ad'.block < B) : ReadAt B (w.setCell ⟨R,0,none⟩ (.slice A' l'.length c')) R g1 g2 A' c' l' ok L1 L2:=
 { h with reader:=h.reader.set 0 (by simp) _,cap:=hc,row:=C_stays hr (fun ad e hn=>Below.heap_setCell w ⟨R,0,none⟩ _ _ (fun q=>by have:=hA ad e hn;have:=h.atR;have q' : ad.block = R:=q;omega)),far:=hA,bytes:=hl,short:=hs,one:=h.one.set_far h.r1 _ _,two:=h.two.set_far h.r2 _ _ }
theorem ReadAt.setOne (h : ReadAt B w R g1 g2 A c l ok L1 L2) (o : Nat) (ho : o < L1.length) (v : Value) : ReadAt B (w.setCell ⟨g1,o,none⟩ v) R g1 g2 A c l ok (L1.set o v) L2:=
 { h with reader:=h.reader.set_far h.r1.symm _ _,row:=h.row_set h.at1 _ _,one:=h.one.set o ho v,two:=h.two.set_far h.g12.symm _ _,p1:=by rw [List.length_set];exact h.p1 }
theorem ReadAt.kept {bad : Nat → Prop} (h : ReadAt B w R g1 g2 A c l ok L1 L2) (hk : Kept bad w w') (hb : ∀ k,bad k → B ≤ k) (hR : ¬ bad R) (h1 : ¬ bad g1) (h2 : ¬ bad g2) : ReadAt B w' R g1 g2 A c l ok L1 L2:=
 { h with reader:=h.reader.kept hk (by simp) hR,row:=C_stays h.row (fun ad e hn=>hk.block _ (by subst e;exact Kd.C_lt h.row hn (by decide)) (fun q=>by have:=hb _ q;have:=h.far ad e hn;omega)),one:=h.one.kept hk h.p1 h1,two:=h.two.kept hk h.p2 h2 }
end
def numsW : List (Bool × Nat) → List Int → Bool → List Value → List Value → List Int × Bool × List Value × List Value
 | [],l,ok,L1,L2=>(l,ok,L1,L2)
 | (b,o) :: ps,l,ok,L1,L2=>numsW ps (l.drop (numT l).2.1) (ok && (numT l).2.2) (if b = true then L1.set o (.int .i64 (numT l).1) else L1) (if b = true then L2 else L2.set o (.int .i64 (numT l).1))
end Go.Proofs.YtilckocpgififaaDoor.G
/- Calls as bytes, plainly: what code.call, code.EncodeCall and the reference's call compute; how large a call is told. -/
namespace Go.Proofs.YtilckocpgififaaDoor.PNum
open Go.RowKit Go.Proofs.YtilckocpgififaaDoor.G Go.Proofs.YtilckocpgififaaDoorW.PrintWords Go.Proofs.YtilckocpgififaaDoorW.PrintMore Go.Proofs.YtilckocpgififaaDoorW.PrintLast
set_option linter.unusedVariables false
set_option linter.unusedSimpArgs false
def encC : Nat → S24 → List Int
 | 0,c=>numsB [c.f0,c.f1,c.f2,(c.f3.length : Int)]
 | f + 1,c=>numsB [c.f0,c.f1,c.f2,(c.f3.length : Int)] ++ rowsB (c.f3.map (encC f))
def mostC : Nat → Nat
 | 0=>36
 | f + 1=>36 + 4 * (9 + mostC f)
theorem okT_kids {f : Nat} {c : S24} (h : okT (f + 1) c = true) : c.f3.length ≤ 4 ∧ ∀ x ∈ c.f3,okT f x = true:=by
 unfold okT okC at h
 by_cases h5 : c.f0 = 5
 ·rw [if_pos h5] at h;simp only [Bool.and_eq_true,decide_eq_true_eq,List.all_eq_true] at h;exact ⟨h.1.2.2,h.2⟩
 rw [if_neg h5] at h
 have h0 : c.f3.length = 0:=by
  unfold leafOk at h
  split at h
  ·simp only [Bool.and_eq_true,decide_eq_true_eq] at h;exact h.1.1
  ·split at h
   ·simp only [Bool.and_eq_true,decide_eq_true_eq] at h;exact h.1.1
   ·split at h
    ·simp only [Bool.and_eq_true,decide_eq_true_eq] at h;exact h.1.1
    ·cases h
 have e:=List.eq_nil_of_length_eq_zero h0;rw [e];exact ⟨by simp,fun x hx=>by cases hx⟩
theorem okT_leaf {c : S24} (h : okT 0 c = true) : c.f3 = []:=by
 unfold okT okC leafOk at h
 apply List.eq_nil_of_length_eq_zero
 split at h
 ·simp only [Bool.and_eq_true,decide_eq_true_eq] at h;exact h.1.1
 ·split at h
  ·simp only [Bool.and_eq_true,decide_eq_true_eq] at h;exact h.1.1
  ·split at h
   ·simp only [Bool.and_eq_true,decide_eq_true_eq] at h;exact h.1.1
   ·cases h
theorem rowsB_most (m : Nat) (l : List (List Int)) (h : ∀ x ∈ l,x.length ≤ m) : (rowsB l).length ≤ l.length * (9 + m):=by
 induction l with
 | nil=>simp [rowsB]
 | cons p l ih=>
   have h1:=h p (by simp);have h2:=ih (fun x hx=>h x (by simp [hx]));have h3:=sizeN_range (p.length : Int);rw [rowsB_cons,List.length_append,rowB_length,List.length_cons,Nat.add_mul]
   omega
theorem encC_most : ∀ (f : Nat) (c : S24),okT f c = true → (encC f c).length ≤ mostC f
 | 0,c,h=>by have:=numsB_length [c.f0,c.f1,c.f2,(c.f3.length : Int)];simp only [encC,mostC,List.length_cons,List.length_nil] at *;omega
 | f + 1,c,h=>by
   obtain ⟨h4,hk⟩:=okT_kids h;have h1:=numsB_length [c.f0,c.f1,c.f2,(c.f3.length : Int)]
   have h2:=rowsB_most (mostC f) (c.f3.map (encC f)) (by
    intro x hx;obtain ⟨y,hy,rfl⟩:=List.mem_map.1 hx
    exact encC_most f y (hk y hy))
   have h3:=Nat.mul_le_mul_right (9 + mostC f) h4;rw [List.length_map] at h2;simp only [encC,mostC,List.length_append,List.length_cons,List.length_nil] at *
   omega
theorem mostC_small {f : Nat} (h : f ≤ 3) : mostC f ≤ 3816:=by
 match f,h with
 | 0,_=>decide
 | 1,_=>decide
 | 2,_=>decide
 | 3,_=>decide
theorem encC_bytes : ∀ (f : Nat) (c : S24),IsBytes (encC f c)
 | 0,c=>numsB_bytes _
 | f + 1,c=>(numsB_bytes _).append (rowsB_bytes (by
     intro p hp;obtain ⟨y,_,rfl⟩:=List.mem_map.1 hp
     exact encC_bytes f y))
theorem rd_natT (l : List S24) (i : Nat) (h : i < l.length) : rd_T24 l (i : Int) = l[i]:=rd_T l i h
theorem call_loop (f : Nat) (hf : f ≤ 3) (l : List S24) (h4 : l.length ≤ 4) (N : Nat) (hN : 12 ≤ N) (ih : ∀ x ∈ l,okT f x = true → ∀ k,N ≤ k → code_call.f k x.f0 x.f1 x.f2 x.f3 = some (encC f x)) (hok : ∀ x ∈ l,okT f x = true) (d : Nat) :
 ∀ (k i : Nat) (b : List Int),i + d = l.length → d + N < k → b.length + 4000 * d < 1000000 → code_call.l0 k b l (l.length : Int) i = some (b ++ rowsB ((l.drop i).map (encC f))):=by
 induction d with
 | zero=>
   intro k i b hi hk hb;obtain ⟨k,rfl⟩ : ∃ q,k = q + 1:=⟨k - 1,by omega⟩;rw [code_call.l0,if_neg (by omega),List.drop_eq_nil_of_le (by omega)]
   simp [rowsB]
 | succ d ihd=>
   intro k i b hi hk hb;obtain ⟨k,rfl⟩ : ∃ q,k = q + 1:=⟨k - 1,by omega⟩
   have hlt : i < l.length:=by omega
   have e1 : wrap64 ((i : Int) + 1) = ((i + 1 : Nat) : Int):=by rw [wrap_in (by omega) (by omega)];omega
   have c1 : (i : Int) < (l.length : Int):=by omega
   have c2 : (0 : Int) ≤ (i : Int):=by omega
   have hm:=List.getElem_mem hlt;have hlen:=encC_most f _ (hok _ hm);have hsm:=mostC_small hf
   have hsz : rowsSize [encC f l[i]] = 1 + (encC f l[i]).length:=by simp [rowsSize]
   have hbs:=sizeN_range ((encC f l[i]).length : Int);have hr:=row_tells k b [encC f l[i]] (by omega) (by simp;omega) (by omega)
   have hrl : (rowsB [encC f l[i]]).length ≤ 9 + mostC f:=by rw [rowsB_cons,List.length_append,rowB_length];simp only [rowsB,List.flatMap_nil,List.length_nil];omega
   rw [code_call.l0,if_pos c1,if_pos c2,if_pos c1,rd_natT l i hlt,ih _ hm (hok _ hm) k (by omega),Option.bind_some,hr,Option.bind_some,e1];rw [ihd k (i + 1) _ (by omega) (by omega) (by rw [List.length_append];omega),List.drop_eq_getElem_cons hlt,List.map_cons,rowsB_cons,List.append_assoc]
   simp [rowsB]
def needC (f : Nat) : Nat:=20 + 10 * f
theorem call_tells : ∀ (f : Nat) (hf : f ≤ 3) (c : S24),okT f c = true → ∀ k,needC f ≤ k → code_call.f k c.f0 c.f1 c.f2 c.f3 = some (encC f c):=by
 intro f
 induction f with
 | zero=>
   intro hf c h k hk
   unfold needC at hk
   obtain ⟨k,rfl⟩ : ∃ q,k = q + 2:=⟨k - 2,by omega⟩;have hp:=put_tells (k + 1) [] [c.f0,c.f1,c.f2,(c.f3.length : Int)] (by simp) (by simp;omega) (by simp);have e:=okT_leaf h;rw [code_call.f,hp,Option.bind_some,code_call.l0];rw [if_neg (by rw [e];simp)]
   simp [encC]
 | succ f ih=>
   intro hf c h k hk;obtain ⟨h4,hok⟩:=okT_kids h
   have hk' : needC f + 10 ≤ k:=by unfold needC at *;omega
   have hN : 12 ≤ needC f:=by unfold needC;omega
   obtain ⟨k,rfl⟩ : ∃ q,k = q + 1:=⟨k - 1,by omega⟩;have hp:=put_tells k [] [c.f0,c.f1,c.f2,(c.f3.length : Int)] (by simp) (by simp;omega) (by simp);have hl:=numsB_length [c.f0,c.f1,c.f2,(c.f3.length : Int)];simp only [List.length_cons,List.length_nil] at hl;rw [code_call.f,hp,Option.bind_some,List.nil_append];rw [show (0 : Int) = ((0 : Nat) : Int) from rfl];rw [call_loop f (by omega) c.f3 h4 (needC f) hN (fun x hx hx' q hq=>ih (by omega) x hx' q hq) hok c.f3.length k 0 _ (by omega) (by omega) (by omega)]
   simp [encC]
theorem isCall_tells (c : S24) : code_IsCall.f c.f0 c.f1 c.f2 c.f3 = some (okT 3 c):=by
 unfold code_IsCall.f code_isCall.f
 rw [if_pos rfl];rfl
theorem encode_tells (c : S24) (k : Nat) (hk : 50 ≤ k) : code_EncodeCall.f k c.f0 c.f1 c.f2 c.f3 = some (if okT 3 c then (encC 3 c,0) else ([],1)):=by
 unfold code_EncodeCall.f
 rw [isCall_tells,Option.bind_some]
 by_cases h : okT 3 c = true
 rotate_left
 ·rw [if_neg h,if_neg h]
 rw [if_pos h,if_pos h,call_tells 3 (by omega) c h k (by unfold needC;omega)];rfl
/-! ### the reference's call -/
theorem rin_tells (a b c : Int) : althingref7_in.f a b c = some (decide (b ≤ a ∧ a ≤ c)):=by
 unfold althingref7_in.f
 by_cases h : a ≥ b
 ·rw [if_pos h];congr 1;simp;omega
 rw [if_neg h];congr 1;symm;exact decide_eq_false (by omega)
theorem rcall_loop (f : Nat) (l : List S24) (h4 : l.length ≤ 4) (dp : Int) (hd : 0 ≤ dp ∧ dp ≤ 10) (k0 k1 k2 : Int) (N : Nat) (ih : ∀ x ∈ l,∀ k,N ≤ k → althingref7_call.f k x.f0 x.f1 x.f2 x.f3 (dp + 1) = some (okT f x)) (d : Nat) :
 ∀ (k i : Nat),i + d = l.length → d + N < k → althingref7_call.l0 k dp i k0 k1 k2 l = some ((l.drop i).all (okT f)):=by
 induction d with
 | zero=>
   intro k i hi hk;obtain ⟨k,rfl⟩ : ∃ q,k = q + 1:=⟨k - 1,by omega⟩;rw [althingref7_call.l0,if_neg (by omega),List.drop_eq_nil_of_le (by omega)]
   rfl
 | succ d ihd=>
   intro k i hi hk;obtain ⟨k,rfl⟩ : ∃ q,k = q + 1:=⟨k - 1,by omega⟩
   have hlt : i < l.length:=by omega
   have e1 : wrap64 ((i : Int) + 1) = ((i + 1 : Nat) : Int):=by rw [wrap_in (by omega) (by omega)];omega
   have e2 : wrap64 (dp + 1) = dp + 1:=wrap_in (by omega) (by omega)
   have c1 : (i : Int) < (l.length : Int):=by omega
   have c2 : (0 : Int) ≤ (i : Int):=by omega
   have hm:=List.getElem_mem hlt;rw [althingref7_call.l0,if_pos c1,if_pos c2,rd_natT l i hlt,e2,ih _ hm k (by omega),Option.bind_some,e1,List.drop_eq_getElem_cons hlt,List.all_cons]
   by_cases h : okT f l[i] = true
   rotate_left
   ·rw [if_neg h,Bool.eq_false_iff.2 h];rfl
   rw [if_pos h,ihd k (i + 1) (by omega) (by omega),h];rfl
theorem rcall_tells : ∀ (f : Nat) (dp : Int),dp + f = 3 → 0 ≤ dp → ∀ (c : S24) (k : Nat),10 + 10 * f ≤ k → althingref7_call.f k c.f0 c.f1 c.f2 c.f3 dp = some (okT f c):=by
 intro f
 induction f with
 | zero=>
   intro dp hd h0 c k hk;obtain ⟨k,rfl⟩ : ∃ q,k = q + 5:=⟨k - 5,by omega⟩
   have hdp : dp = 3:=by omega
   subst hdp
   unfold okT okC leafOk
   by_cases h5 : c.f0 = 5
   ·simp only [althingref7_call.f,althingref7_call.j0,althingref7_call.j1,althingref7_call.j2,rin_tells,h5,Option.bind_some]
    simp
   by_cases h0 : c.f3.length = 0
   rotate_left
   ·have hp : (c.f3.length : Int) > 0:=by omega
    rw [althingref7_call.f,if_neg h5,if_pos hp,althingref7_call.j0,if_pos rfl]
    congr 1
    simp [h0]
   by_cases h1 : c.f0 = 1
   ·simp only [althingref7_call.f,althingref7_call.j0,althingref7_call.j1,althingref7_call.j2,rin_tells,h1,h0,Option.bind_some]
    by_cases t : c.f1 = 0 <;> simp [t]
   by_cases h2 : c.f0 = 2
   ·simp only [althingref7_call.f,althingref7_call.j0,althingref7_call.j1,althingref7_call.j2,rin_tells,h2,h0,Option.bind_some]
    by_cases t : 0 ≤ c.f1 ∧ c.f1 ≤ 9 <;> simp [t]
   by_cases h3 : c.f0 = 3
   ·simp only [althingref7_call.f,althingref7_call.j0,althingref7_call.j1,althingref7_call.j2,rin_tells,h3,h0,Option.bind_some]
    by_cases t : c.f1 = 0 <;> simp [t]
   by_cases h4 : c.f0 = 4
   ·simp only [althingref7_call.f,althingref7_call.j0,althingref7_call.j1,althingref7_call.j2,rin_tells,h4,h0,Option.bind_some]
    by_cases t : c.f1 = 0 <;> simp [t]
   simp only [althingref7_call.f,althingref7_call.j0,althingref7_call.j1,althingref7_call.j2,rin_tells,h5,h1,h2,h3,h4,h0,Option.bind_some]
   by_cases t : c.f1 = 0 <;> simp [t,h3,h4]
 | succ f ih=>
   intro dp hd h0 c k hk;have e2 : wrap64 (dp + 1) = dp + 1:=wrap_in (by omega) (by omega)
   by_cases h5 : c.f0 = 5
   ·obtain ⟨k,rfl⟩ : ∃ q,k = q + 4:=⟨k - 4,by omega⟩
    unfold okT okC
    rw [if_pos h5]
    have hdd : ¬ dp ≥ 3:=by omega
    have hi:=fun h4=>rcall_loop f c.f3 h4 dp (by omega) c.f0 c.f1 c.f2 (10 + 10 * f) (fun x _ q hq=>ih (dp + 1) (by omega) (by omega) x q hq) c.f3.length k 0 (by omega) (by omega);rw [show ((0 : Nat) : Int) = 0 from rfl,List.drop_zero] at hi;rw [althingref7_call.f,if_pos h5,if_neg (by omega),althingref7_call.j0]
    by_cases t : c.f1 = 0
    rotate_left
    ·have t1 : (c.f1 != 0) = true:=by simp [t]
     rw [t1,if_pos rfl];simp [t]
    have t1 : (c.f1 != 0) = false:=by simp [t]
    rw [t1,if_neg (by simp),if_neg (by omega),if_neg (by omega),if_neg (by omega),althingref7_call.j1,if_neg (by simp;omega),if_pos h5]
    by_cases n : c.f2 = 0
    rotate_left
    ·rw [if_neg n,althingref7_call.j2,if_pos rfl];simp [n]
    rw [if_pos n,rin_tells,Option.bind_some]
    by_cases l4 : c.f3.length ≤ 4 ∧ 1 ≤ c.f3.length
    ·rw [if_pos (decide_eq_true (by omega)),althingref7_call.j2,if_neg (by simp;omega),hi (by omega)]
     simp [t,n,l4]
    rw [if_neg (by simp;omega),althingref7_call.j2,if_pos rfl]
    congr 1;symm
    have : decide (1 ≤ c.f3.length ∧ c.f3.length ≤ 4) = false:=decide_eq_false (by omega);simp only [this,Bool.and_false,Bool.false_and]
   have hleaf : althingref7_call.f k c.f0 c.f1 c.f2 c.f3 dp = some (leafOk c.f0 c.f1 c.f2 c.f3):=by
    obtain ⟨k,rfl⟩ : ∃ q,k = q + 5:=⟨k - 5,by omega⟩
    unfold leafOk
    by_cases h0 : c.f3.length = 0
    rotate_left
    ·have hp : (c.f3.length : Int) > 0:=by omega
     rw [althingref7_call.f,if_neg h5,if_pos hp,althingref7_call.j0,if_pos rfl]
     congr 1
     simp [h0]
    by_cases h1 : c.f0 = 1
    ·simp only [althingref7_call.f,althingref7_call.j0,althingref7_call.j1,althingref7_call.j2,rin_tells,h1,h0,Option.bind_some]
     by_cases t : c.f1 = 0 <;> simp [t]
    by_cases h2 : c.f0 = 2
    ·simp only [althingref7_call.f,althingref7_call.j0,althingref7_call.j1,althingref7_call.j2,rin_tells,h2,h0,Option.bind_some]
     by_cases t : 0 ≤ c.f1 ∧ c.f1 ≤ 9 <;> simp [t]
    by_cases h3 : c.f0 = 3
    ·simp only [althingref7_call.f,althingref7_call.j0,althingref7_call.j1,althingref7_call.j2,rin_tells,h3,h0,Option.bind_some]
     by_cases t : c.f1 = 0 <;> simp [t]
    by_cases h4 : c.f0 = 4
    ·simp only [althingref7_call.f,althingref7_call.j0,althingref7_call.j1,althingref7_call.j2,rin_tells,h4,h0,Option.bind_some]
     by_cases t : c.f1 = 0 <;> simp [t]
    simp only [althingref7_call.f,althingref7_call.j0,althingref7_call.j1,althingref7_call.j2,rin_tells,h5,h1,h2,h3,h4,h0,Option.bind_some]
    by_cases t : c.f1 = 0 <;> simp [t,h3,h4]
   rw [hleaf]
   unfold okT okC
   rw [if_neg h5]
theorem risCall_tells (c : S24) (k : Nat) (hk : 40 ≤ k) : althingref7_IsCall.f k c.f0 c.f1 c.f2 c.f3 = some (okT 3 c):=by
 unfold althingref7_IsCall.f
 rw [rcall_tells 3 0 (by omega) (by omega) c k (by omega)];rfl
/-! ### how large a call is told -/
theorem call_ind {p : S24 → Prop} (h : ∀ c : S24,(∀ x ∈ c.f3,p x) → p c) : ∀ c,p c
 | ⟨a,b,n,l⟩=>h _ (fun x hx=>call_ind h x)
termination_by c=>SizeOf.sizeOf c
decreasing_by
 have:=List.sizeOf_lt_of_mem hx;simp only [S24.mk.sizeOf_spec] at *
 omega
theorem size_mono (c : S24) {k k' : Nat} (h : k ≤ k') {r : Int} (hr : althinglaw7_size.f k c.f0 c.f1 c.f2 c.f3 = some r) : althinglaw7_size.f k' c.f0 c.f1 c.f2 c.f3 = some r:=by
 induction h with
 | refl=>exact hr
 | step _ ih=>exact althinglaw7_size.mono _ _ _ _ _ _ ih
theorem size_loop (l : List S24) (hl : l.length ≤ 9223372036854775807) (a b c : Int) (K : Nat) (ih : ∀ x ∈ l,∀ k,K ≤ k → ∃ r,althinglaw7_size.f k x.f0 x.f1 x.f2 x.f3 = some r) (d : Nat) :
 ∀ (k i : Nat) (n : Int),i + d = l.length → d + K < k → ∃ r,althinglaw7_size.l0 k n i a b c l = some r:=by
 induction d with
 | zero=>
   intro k i n hi hk;obtain ⟨k,rfl⟩ : ∃ q,k = q + 1:=⟨k - 1,by omega⟩;exact ⟨n,by rw [althinglaw7_size.l0,if_neg (by omega)]⟩
 | succ d ihd=>
   intro k i n hi hk;obtain ⟨k,rfl⟩ : ∃ q,k = q + 1:=⟨k - 1,by omega⟩
   have hlt : i < l.length:=by omega
   have e1 : wrap64 ((i : Int) + 1) = ((i + 1 : Nat) : Int):=by rw [wrap_in (by omega) (by omega)];omega
   have c1 : (i : Int) < (l.length : Int):=by omega
   have c2 : (0 : Int) ≤ (i : Int):=by omega
   by_cases h3 : n < 300
   rotate_left
   ·exact ⟨n,by rw [althinglaw7_size.l0,if_pos c1,if_neg h3]⟩
   obtain ⟨r,hr⟩:=ih _ (List.getElem_mem hlt) k (by omega);obtain ⟨q,hq⟩:=ihd k (i + 1) (wrap64 (n + r)) (by omega) (by omega);exact ⟨q,by rw [althinglaw7_size.l0,if_pos c1,if_pos h3,if_pos c2,rd_natT l i hlt,hr,Option.bind_some,e1];exact hq⟩
def Fits : Nat → S24 → Prop
 | 0,_=>False
 | f + 1,c=>c.f3.length ≤ 9223372036854775807 ∧ ∀ x ∈ c.f3,Fits f x
theorem size_some : ∀ (f : Nat) (c : S24),Fits f c → ∃ k r,althinglaw7_size.f k c.f0 c.f1 c.f2 c.f3 = some r
 | 0,c,h=>h.elim
 | f + 1,c,⟨hl,h⟩=>by
   have hK : ∀ l : List S24,(∀ x ∈ l,Fits f x) → ∃ K,∀ x ∈ l,∀ k,K ≤ k → ∃ r,althinglaw7_size.f k x.f0 x.f1 x.f2 x.f3 = some r:=by
    intro l
    induction l with
    | nil=>intro _;exact ⟨0,fun x hx=>by cases hx⟩
    | cons x l ih=>
      intro hx;obtain ⟨K,hK⟩:=ih (fun y hy=>hx y (by simp [hy]));obtain ⟨k,r,hr⟩:=size_some f x (hx x (by simp));refine ⟨K + k,fun y hy q hq=>?_⟩
      rcases List.mem_cons.1 hy with rfl | hy
      ·exact ⟨r,size_mono y (by omega) hr⟩
      ·exact hK y hy q (by omega)
   obtain ⟨K,hK⟩:=hK c.f3 h;obtain ⟨r,hr⟩:=size_loop c.f3 hl c.f0 c.f1 c.f2 K hK c.f3.length (c.f3.length + K + 1) 0 (wrap64 (1 + (c.f3.length : Int))) (by omega) (by omega);exact ⟨c.f3.length + K + 2,r,by rw [althinglaw7_size.f];exact hr⟩
theorem Fits.more : ∀ {f : Nat} {c : S24},Fits f c → Fits (f + 1) c
 | 0,_,h=>h.elim
 | _ + 1,_,h=>⟨h.1,fun x hx=>(h.2 x hx).more⟩
theorem Fits.mono {f f' : Nat} (h : f ≤ f') {c : S24} (hc : Fits f c) : Fits f' c:=by
 induction h with
 | refl=>exact hc
 | step _ ih=>exact ih.more
theorem fits_list (l : List S24) (h : ∀ x ∈ l,∃ f,Fits f x) : ∃ f,∀ x ∈ l,Fits f x:=by
 induction l with
 | nil=>exact ⟨0,fun x hx=>by cases hx⟩
 | cons x l ih=>
   obtain ⟨f,hf⟩:=h x (by simp);obtain ⟨g,hg⟩:=ih (fun y hy=>h y (by simp [hy]));refine ⟨f + g,fun y hy=>?_⟩
   rcases List.mem_cons.1 hy with rfl | hy
   ·exact hf.mono (by omega)
   ·exact (hg y hy).mono (by omega)
theorem fits_kids (w : World) : ∀ (c : S24) (A : Option Addr),Kd.C k24 w A c.f3.length c.f3 → ∃ f,Fits f c:=by
 apply call_ind
 intro c ih A h
 obtain ⟨f,hf⟩:=fits_list c.f3 (fun x hx=>by
  obtain ⟨i,hi,rfl⟩:=List.mem_iff_getElem.1 hx;obtain ⟨ad,A3,c3,eA,h0,h1,h2,h3,hl3,hC3⟩:=at_T24 h (i : Int) (by omega) (by omega);rw [rd_T c.f3 i hi] at hC3
  exact ih _ (List.getElem_mem hi) A3 hC3)
 have:=C_short h;exact ⟨f + 1,by omega,hf⟩
/-! ### more room changes nothing -/
end Go.Proofs.YtilckocpgififaaDoor.PNum
/- Bytes as a call, plainly: what code.taken computes. -/
namespace Go.Proofs.YtilckocpgififaaDoor.G
open Go.RowKit Go.Shelf Go.Proofs.YtilckocpgififaaDoorW.PrintWords Go.Proofs.YtilckocpgififaaDoorW.PrintMore Go.Proofs.YtilckocpgififaaDoor.PNum
set_option linter.unusedVariables false
set_option linter.unusedSimpArgs false
def restT (l : List Int) : List Int:=l.drop (numT l).2.1
def valT (l : List Int) : Int:=(numT l).1
def okN (l : List Int) : Bool:=(numT l).2.2
theorem restT_bytes {l : List Int} (h : IsBytes l) : IsBytes (restT l):=h.drop _
def kidsA (dec : List Int → Option S24) : Nat → List Int → Bool → List S24 → Option (List S24 × List Int × Bool)
 | 0,l,ok,acc=>some (acc,l,ok)
 | n + 1,l,ok,acc=>match dec (rowT l).1 with
   | none=>none
   | some k=>kidsA dec n (l.drop (rowT l).2.1) (ok && (rowT l).2.2) (acc ++ [k])
def headOk (l : List Int) : Bool:=okN l && okN (restT l) && okN (restT (restT l)) && okN (restT (restT (restT l)))
def kidsN (l : List Int) : Int:=valT (restT (restT (restT l)))
def bodyT (l : List Int) : List Int:=restT (restT (restT (restT l)))
def takenF : Nat → List Int → Option S24
 | 0,_=>none
 | f + 1,l=>if headOk l = false ∨ kidsN l > 4 then none else
   match kidsA (takenF f) (kidsN l).toNat (bodyT l) true [] with
   | none=>none
   | some (ks,r,ok)=>if (ok && decide (r.length = 0)) = true then some ⟨valT l,valT (restT l),valT (restT (restT l)),ks⟩ else none
def zeroC : List Value:=[.int .i64 0,.int .i64 0,.int .i64 0,.slice none 0 0]
def placesC : List (Bool × Nat):=[(true,0),(true,1),(true,2),(false,0)]
theorem numsW_head (l : List Int) : numsW placesC l true zeroC [.int .i64 0] = (bodyT l,headOk l,[.int .i64 (valT l),.int .i64 (valT (restT l)),.int .i64 (valT (restT (restT l))),.slice none 0 0],[.int .i64 (kidsN l)]):=by
 simp [numsW,placesC,zeroC,bodyT,headOk,kidsN,restT,valT,okN]
end Go.Proofs.YtilckocpgififaaDoor.G
/- (*code.reader).nums: numbers are taken into places (laid by mkread.py). -/
namespace Go.Proofs.YtilckocpgififaaDoor.G
open Go.RowKit Go.Shelf Go.Proofs.YtilckocpgififaaDoorW.PrintWords Go.Proofs.YtilckocpgififaaDoorW.PrintLast Go.Proofs.YtilckocpgififaaDoorW.PrintMore Go.Proofs.YtilckocpgififaaDoor.PNum
set_option linter.unusedVariables false
set_option linter.unusedSimpArgs false
def bad3 (R g1 g2 : Nat) (k : Nat) : Prop:=k = R ∨ k = g1 ∨ k = g2
def nums_r5.T : Bool × List (List Nat × List Nat):=(true,[([],[]),([],[]),([],[]),([],[]),([3],[3]),([4],[4]),([5],[5]),([],[]),([6,7],[6,7]),([0,0,2,6],[0]),([9,2,0,2,6],[2,9]),([1,0,1,2,3,4,5,6,7,8,9,10],[1]),([11,0,1,2,3,4,5,6,7,8,9,10],[11]),([12,8,10,0,1,2,3,4,5,6,7,8,9,10],[8,12])])
def nums_r5.B : List Nat:=[0,0,0,0,8,24,56,0,248,125,637,2047,4095,8191]
theorem nums_r5.tab : rtab .any (opsOf Tryd.f40 5) = nums_r5.T:=by kernel_rfl
theorem nums_r5.bits : waitsOk nums_r5.T.2 nums_r5.B = true:=by kernel_rfl
def nums_r5.l0 : Array Bool:=bl 14 1
def nums_r5.l1 : Array Bool:=bl 14 3
def nums_r5.l2 : Array Bool:=bl 14 7
def nums_r5.l3 : Array Bool:=bl 14 15
def nums_r5.l4 : Array Bool:=bl 14 31
def nums_r5.l5 : Array Bool:=bl 14 63
def nums_r5.l6 : Array Bool:=bl 14 127
def nums_r5.l7 : Array Bool:=bl 14 255
def nums_r5.l8 : Array Bool:=bl 14 511
def nums_r5.l9 : Array Bool:=bl 14 1023
def nums_r5.l10 : Array Bool:=bl 14 2047
def nums_r5.l11 : Array Bool:=bl 14 4095
def nums_r5.l12 : Array Bool:=bl 14 8191
def nums_r5.l13 : Array Bool:=bl 14 16383
set_option maxRecDepth 100000 in
set_option maxHeartbeats 16000000 in
theorem nums_calls (B R g1 g2 gp cp : Nat) (ps : List (Bool × Nat)) (A : Option Addr) (c : Nat) (l : List Int) (ok : Bool) (L1 L2 : List Value) (w : World) (hR : ReadAt B w R g1 g2 A c l ok L1 L2)
 (hps : ∀ i (h : i < ps.length),(ps[i]).2 < (if (ps[i]).1 = true then L1 else L2).length) (hp : ∀ i (h : i < ps.length),w.cell? ⟨gp,i,none⟩ = some (.pointer (some ⟨if (ps[i]).1 = true then g1 else g2,(ps[i]).2,none⟩)))
 (hgp : gp < w.heap.size ∧ gp ≠ R ∧ gp ≠ g1 ∧ gp ≠ g2) (hn : ps.length ≤ 1000) :
 Calls Tryd.prog 40 #[.pointer (some ⟨R,0,none⟩),.slice (some ⟨gp,0,none⟩) ps.length cp] w fun e w'=>e = .returned (.tuple #[]) ∧
  (∃ A' c',ReadAt B w' R g1 g2 A' c' (numsW ps l ok L1 L2).1 (numsW ps l ok L1 L2).2.1 (numsW ps l ok L1 L2).2.2.1 (numsW ps l ok L1 L2).2.2.2) ∧ Kept (bad3 R g1 g2) w w':=by
 have HR:=am hR;have HPS:=am hps;have HP:=am hp;have HGP:=am hgp;have HN:=am hn;clear hR hps hp hgp hn;go_enter Tryd.func40,Tryd.ntmps40
 go_wp2
 go_loopw [11] (fun i wr=>∃ x : Int,i = .int .i64 x ∧ (0 ≤ x ∧ x ≤ (ps.length : Int)) ∧
  Aside0 (∃ A' c' l' ok' L1' L2',ReadAt B wr R g1 g2 A' c' l' ok' L1' L2' ∧ L1'.length = L1.length ∧ L2'.length = L2.length ∧ numsW (ps.drop x.toNat) l' ok' L1' L2' = numsW ps l ok L1 L2) ∧ Aside0 (Kept (bad3 R g1 g2) w wr))
  (fun i _=>ps.length - (intOf i).toNat)
 case atStart=>exact ⟨0,rfl,⟨by omega,by omega⟩,⟨A,c,l,ok,L1,L2,HR.out,rfl,rfl,rfl⟩,⟨Kept.refl _ _⟩⟩
 case round=>
 obtain ⟨x,rfl,⟨hx0,hx1⟩,HV,HG⟩:=hrel;obtain ⟨A',c',l',ok',L1',L2',hRA,hl1,hl2,hE⟩:=HV.out;have hnn:=HN.out
 by_cases hlt : x < (ps.length : Int)
 rotate_left
 ·have d0 : decide (x < (ps.length : Int)) = false:=decide_eq_false hlt
  have hx9 : x = (ps.length : Int):=by omega
  subst hx9;rw [Int.toNat_natCast,List.drop_length] at hE;have HRA:=am hRA;have HE:=am hE;clear hRA hl1 hl2 hE HV
  go_wp2
  refine bodyPost_end (v:= .tuple #[]) (results_none rfl _ _ _) rfl ?_;exact ⟨rfl,⟨A',c',by rw [← HE.out];exact HRA.out⟩,HG.out⟩
 have d0 : decide (x < (ps.length : Int)) = true:=decide_eq_true hlt
 have xw : wrap64 (x + 1) = x + 1:=by unfold wrap64;omega
 have hxl : x.toNat < ps.length:=by omega
 obtain ⟨b,o,hbo⟩ : ∃ b o,ps[x.toNat] = (b,o):=⟨_,_,rfl⟩
 have key : ∃ (G H : Nat) (LG LH : List Value),ReadAt B wr R G H A' c' l' ok' LG LH ∧ o < LG.length ∧ bad3 R g1 g2 G ∧ wr.cell? ⟨gp,x.toNat,none⟩ = some (.pointer (some ⟨G,o,none⟩)) ∧
  (∀ (W : World) A2 c2 l2 ok2 v,ReadAt B W R G H A2 c2 l2 ok2 (LG.set o v) LH → ReadAt B W R g1 g2 A2 c2 l2 ok2 (if b = true then L1'.set o v else L1') (if b = true then L2' else L2'.set o v)):=by
  have hc:=HP.out x.toNat hxl;have ho:=HPS.out x.toNat hxl;rw [hbo] at hc ho;have hcell : wr.cell? ⟨gp,x.toNat,none⟩ = w.cell? ⟨gp,x.toNat,none⟩:=World.cell?_of_block (a:=⟨gp,x.toNat,none⟩) (HG.out.block gp HGP.out.1 (fun q=>q.elim HGP.out.2.1 (fun q=>q.elim HGP.out.2.2.1 HGP.out.2.2.2)))
  cases b with
  | true=>exact ⟨g1,g2,L1',L2',hRA,by rw [hl1];exact ho,.inr (.inl rfl),hcell.trans hc,fun W A2 c2 l2 ok2 v h=>h⟩
  | false=>exact ⟨g2,g1,L2',L1',hRA.swap,by rw [hl2];exact ho,.inr (.inr rfl),hcell.trans hc,fun W A2 c2 l2 ok2 v h=>h.swap⟩
 obtain ⟨G,H,LG,LH,hRG,hoG,hbG,hpc,hback⟩:=key;obtain ⟨v,hv⟩ : ∃ v,(numT l').1 = v:=⟨_,rfl⟩;obtain ⟨s,hs⟩ : ∃ s,(numT l').2.1 = s:=⟨_,rfl⟩;obtain ⟨k',hk'⟩ : ∃ k',(numT l').2.2 = k':=⟨_,rfl⟩
 have hsl : s ≤ l'.length:=by rw [← hs];exact numT_size hRG.bytes
 have htk:=ctake_tells 40 l' hRG.bytes (by decide);rw [numT_out,hv,hs,hk'] at htk
 have hnext : numsW (ps.drop (x + 1).toNat) (l'.drop s) (ok' && k') (if b = true then L1'.set o (.int .i64 v) else L1') (if b = true then L2' else L2'.set o (.int .i64 v)) = numsW ps l ok L1 L2:=by
  rw [← hE,List.drop_eq_getElem_cons hxl,hbo,numsW,hv,hs,hk',show (x + 1).toNat = x.toNat + 1 by omega]
 obtain ⟨i8,hi8,_,hsz8,_⟩:=info_parts info5;obtain ⟨A2,hcut,hCr,hcc,hAA⟩:=cut_tail (P:=Tryd.prog) 26 5 Tryd.underlying26 hi8 hsz8 A' c' l' s hsl hRG.cap;have HTK:=am htk;have HRG:=am hRG;have HO:=am hoG;have BG:=am hbG;have HBK:=am hback;have HNX:=am hnext;have HCR:=am hCr;have HCC:=am hcc;have HAA:=am hAA;have HL1:=am hl1;have HL2:=am hl2;have r0:=hRG.reader.cell (i:=0) (v:= .slice A' l'.length c') rfl;clear htk hRG hoG hbG hback hnext hCr hcc hAA hl1 hl2 hE HV hRA hbo hv hs hk' hi8 hsz8 hsl;obtain ⟨kk,hkk⟩ : ∃ kk,kk = (ok' && k'):=⟨_,rfl⟩;have HKK:=am hkk;clear hkk;cases ok'
 all_goals (
  go_upto_region 4 with (go_at_call 59;with_reducible refine (compact_Take.calls 40 A' c' l' v (s : Int) k' _ HRG.out.row HRG.out.cap HTK.out).mono ?_;rintro e w1 ⟨rfl,hb_⟩;have HR1:=am (HRG.out.below hb_);have HK1:=am (HG.out.below hb_);clear hb_)
  clear r0;have q1:=HR1.out.reader.cell (i:=1) (v:= .bool _) rfl;have q2:=HR1.out.reader.frozen 1 (by simp)
  go_upto_region 5 with (fail)
  have n0_:=HR1.out.setOk kk;have k0_:=HK1.out.set (.inl rfl) 1 (.bool kk);rw [HKK.out] at n0_ k0_;clear q1 q2;simp only [Bool.true_and,Bool.false_and] at n0_ k0_;generalize World.setCell _ _ _ = w2 at n0_ k0_ ⊢;have r0:=n0_.drew.reader.cell (i:=0) (v:= .slice A' l'.length c') rfl;have HQ0:=am n0_.drew;have HKQ0:=am k0_.drew;clear n0_ k0_;obtain ⟨uG,huG⟩ : ∃ u,LG[o]? = some u:=⟨_,List.getElem?_eq_getElem HO.out⟩;have cG:=HQ0.out.one.cell huG;have fG:=HQ0.out.one.frozen o HO.out;clear huG;refine start_ (n:=14) (S:=fun w'=>w'.cell? ⟨R,0,none⟩ = some (.slice A' l'.length c')) (ds:=[13]) (bl 14 0) (by kernel_rfl) rfl rfl r0 (fun hHeld=>?_);refine with_tabW nums_r5.tab nums_r5.bits (fun HT_ HW_=>?_);clear hHeld;have hHeld:=r0;refine p_ HT_ 0 (some 34) nums_r5.l0 ?_;refine p_ HT_ 1 (some 35) nums_r5.l1 ?_;refine p_ HT_ 2 (some 36) nums_r5.l2 ?_;refine p_ HT_ 3 (some 37) nums_r5.l3 ?_;refine p_ HT_ 4 (some 38) nums_r5.l4 ?_;refine p_ HT_ 5 (some 39) nums_r5.l5 ?_;refine tk HT_ HW_ hHeld 6 (some 40) nums_r5.l6 (hr:=by intro w' hs_;have s0:=hs_;go_simp;with_reducible rfl) (h:=?_);refine p_ HT_ 7 (some 41) nums_r5.l7 ?_;refine p_ HT_ 8 (some 42) nums_r5.l8 ?_;refine p_ HT_ 9 (some 43) nums_r5.l9 ?_;refine o_ HT_ 10 none nums_r5.l10 fun K hK=>?_;refine skip_ (w1:=w2.drew.setCell ⟨G,o,none⟩ (.int .i64 v)) (by rfl) rfl ?_ ?_
  ·go_simp
  have n0_:=HQ0.out.setOne o HO.out (.int .i64 v);have k0_:=HKQ0.out.set BG.out o (.int .i64 v);have hHeld:=n0_.reader.cell (i:=0) (v:= .slice A' l'.length c') rfl;refine hK.out _ _ hHeld (fun hHeld=>?_);clear hK K;generalize World.setCell _ _ _ = wz at n0_ k0_ hHeld ⊢;have HZ:=am n0_;have HKZ:=am k0_;have fz:=n0_.reader.frozen 0 (by simp);clear n0_ k0_ cG fG;refine p_ HT_ 11 (some 44) nums_r5.l11 ?_;refine p_ HT_ 12 (some 45) nums_r5.l12 ?_;refine last_ (i:=13) (N:=none) nums_r5.l13 rfl rfl (one_of HT_.out (by kernel_rfl)) (by decide) (fun K hK=>?_);refine skip_ (w1:=wz.setCell ⟨R,0,none⟩ (.slice A2 (l'.length - s) (c' - s))) (by rfl) rfl ?_ ?_
  ·go_simp
  refine hK.out _ _ ?_;clear hK K;refine done_ (done_of HT_.out (by kernel_rfl)) ?_;clear HT_ HW_
  have n0_:=HZ.out.setRest (A':=A2) (c':=c' - s) (l':=l'.drop s) (by rw [List.length_drop];exact HCC.out) (HCR.out _ _ HZ.out.row) (HZ.out.bytes.drop s) (by rw [List.length_drop];have:=HZ.out.short;omega) (fun ad' e hn=>by
   obtain ⟨ad,e1,e2⟩:=HAA.out ad' e
   rw [e2];exact HZ.out.far ad e1 (by rw [List.length_drop] at hn;omega))
  have k0_:=HKZ.out.set (g:=R) (.inl rfl) 0 (.slice A2 (l'.length - s) (c' - s));rw [List.length_drop] at n0_;clear hHeld fz;generalize World.setCell _ _ _ = w5 at n0_ k0_ ⊢;have HF:=am (HBK.out _ _ _ _ _ _ n0_);have HKF:=am k0_;clear n0_ k0_
  go_wp2
  refine ⟨⟨x + 1,by first | rfl | (rw [xw]) | (simp [xw]),⟨by omega,by omega⟩,⟨_,_,_,_,_,_,HF.out,?_,?_,?_⟩,HKF⟩,by simp [intOf];omega⟩
  ·split <;> first | (rw [List.length_set];exact HL1.out) | exact HL1.out
  ·split <;> first | (rw [List.length_set];exact HL2.out) | exact HL2.out
  ·exact HNX.out)
set_option maxRecDepth 100000 in
set_option maxHeartbeats 16000000 in
theorem row_calls (B R g1 g2 : Nat) (A : Option Addr) (c : Nat) (l : List Int) (ok : Bool) (L1 L2 : List Value) (w : World) (hR : ReadAt B w R g1 g2 A c l ok L1 L2) :
 Calls Tryd.prog 41 #[.pointer (some ⟨R,0,none⟩)] w fun e w'=>
  (∃ A1 c1,e = .returned (.slice A1 (rowT l).1.length c1) ∧ (rowT l).1.length ≤ c1 ∧ Kd.C (Kd.int .u8) w' A1 (rowT l).1.length (rowT l).1 ∧ (∀ ad,A1 = some ad → 0 < (rowT l).1.length → w.heap.size ≤ ad.block)) ∧
  (∃ A' c',ReadAt B w' R g1 g2 A' c' (l.drop (rowT l).2.1) (ok && (rowT l).2.2) L1 L2) ∧ Kept (fun k=>k = R) w w':=by
 have hsz:=rowT_size hR.bytes;have hct:=cut_tells 40 l hR.bytes hR.short (by decide);rw [rowT_out] at hct;obtain ⟨p,hp⟩ : ∃ p,(rowT l).1 = p:=⟨_,rfl⟩;obtain ⟨s,hs⟩ : ∃ s,(rowT l).2.1 = s:=⟨_,rfl⟩;obtain ⟨k',hk'⟩ : ∃ k',(rowT l).2.2 = k':=⟨_,rfl⟩;rw [hp,hs,hk'] at hct;rw [hs] at hsz;rw [hp,hs,hk'];obtain ⟨i8,hi8,_,hsz8,_⟩:=info_parts info5;obtain ⟨A2,hcut,hCr,hcc,hAA⟩:=cut_tail (P:=Tryd.prog) 26 5 Tryd.underlying26 hi8 hsz8 A c l s hsz.1 hR.cap;have HCT:=am hct;have HR:=am hR;have HCR:=am hCr;have HCC:=am hcc;have HAA:=am hAA;have r0:=hR.reader.cell (i:=0) (v:= .slice A l.length c) rfl;clear hct hR hCr hcc hAA hp hs hk' hi8 hsz8 hsz;obtain ⟨kk,hkk⟩ : ∃ kk,kk = (ok && k'):=⟨_,rfl⟩;have HKK:=am hkk;rw [← hkk];clear hkk;cases ok
 all_goals (
  go_enter Tryd.func41,Tryd.ntmps41
  go_upto_region 2 with (go_at_call 60;go_loud (with_reducible refine (compact_Cut.calls 40 A c l p (s : Int) k' _ HR.out.row HR.out.cap HCT.out).mono ?_;rintro e w1 ⟨v0,rfl,hr_,hb_⟩;obtain ⟨A1,c1,hv_,hc1_,hC1_⟩:=Kd.R_reads hr_;have hfb_ : ∀ ad,A1 = some ad → 0 < p.length → w.heap.size ≤ ad.block:=fun ad e _=>Kd.R_base hr_ ad.block (by rw [hv_,e];simp [Value.ownBlock]);subst hv_;have HFB:=am hfb_;have HC1:=am hc1_;have HCP:=am hC1_;have HR1:=am (HR.out.below hb_);have HK1:=am ((Kept.refl (fun k=>k = R) w).below hb_);clear hr_ hb_ hc1_ hC1_ hfb_))
  clear r0;have q1:=HR1.out.reader.cell (i:=1) (v:= .bool _) rfl;have q2:=HR1.out.reader.frozen 1 (by simp)
  go_upto_region 3 with (fail)
  have n0_:=HR1.out.setOk kk;have k0_:=HK1.out.set (g:=R) rfl 1 (.bool kk);have c0_ : Kd.C (Kd.int .u8) (w1.setCell ⟨R,1,none⟩ (.bool kk)) A1 p.length p:=C_stays HCP.out (fun ad e hn=>Below.heap_setCell w1 ⟨R,1,none⟩ _ _ (fun q=>by have:=HFB.out ad e hn;have:=HR.out.reader.lt (by simp);have q' : ad.block = R:=q;omega));rw [HKK.out] at n0_ k0_ c0_;clear q1 q2;simp only [Bool.true_and,Bool.false_and] at n0_ k0_ c0_;generalize World.setCell _ _ _ = w2 at n0_ k0_ c0_ ⊢;have r0:=n0_.reader.cell (i:=0) (v:= .slice A l.length c) rfl;have f0:=n0_.reader.frozen 0 (by simp)
  have n1_:=n0_.setRest (A':=A2) (c':=c - s) (l':=l.drop s) (by rw [List.length_drop];exact HCC.out) (HCR.out _ _ n0_.row) (n0_.bytes.drop s) (by rw [List.length_drop];have:=n0_.short;omega) (fun ad' e hn=>by
   obtain ⟨ad,e1,e2⟩:=HAA.out ad' e
   rw [e2];exact n0_.far ad e1 (by rw [List.length_drop] at hn;omega))
  have k1_:=k0_.set (g:=R) rfl 0 (.slice A2 (l.length - s) (c - s));have c1_ : Kd.C (Kd.int .u8) (w2.setCell ⟨R,0,none⟩ (.slice A2 (l.length - s) (c - s))) A1 p.length p:=C_stays c0_ (fun ad e hn=>Below.heap_setCell w2 ⟨R,0,none⟩ _ _ (fun q=>by have:=HFB.out ad e hn;have:=HR.out.reader.lt (by simp);have q' : ad.block = R:=q;omega));rw [List.length_drop] at n1_;have N1:=am n1_;have K1:=am k1_;have C1:=am c1_;clear n0_ k0_ c0_ n1_ k1_ c1_
  go_wp2
  go_ret
  exact ⟨⟨A1,c1,rfl,HC1.out,C1.out,HFB.out⟩,⟨A2,c - s,by rw [HKK.out];exact N1.out⟩,K1.out⟩)
theorem whole_calls (B R g1 g2 : Nat) (A : Option Addr) (c : Nat) (l : List Int) (ok : Bool) (L1 L2 : List Value) (w : World) (hR : ReadAt B w R g1 g2 A c l ok L1 L2) :
 Calls Tryd.prog 42 #[.pointer (some ⟨R,0,none⟩)] w fun e w'=>e = .returned (.bool (ok && decide (l.length = 0))) ∧ w' = w:=by
 have r0:=hR.reader.cell (i:=0) (v:= .slice A l.length c) rfl;have r1:=hR.reader.cell (i:=1) (v:= .bool ok) rfl;clear hR
 by_cases h0 : l.length = 0
 ·have d0 : decide (l.length = 0) = true:=decide_eq_true h0;have d1 : decide ((l.length : Int) = 0) = true:=decide_eq_true (by omega);have d2 : ((l.length : Int) == 0) = true:=beq_iff_eq.2 (by omega);rw [d0];clear h0 d0;cases ok
  all_goals (
   go_enter Tryd.func42,Tryd.ntmps42
   go_wp2
   go_ret
   exact ⟨by simp,rfl⟩)
 have d0 : decide (l.length = 0) = false:=decide_eq_false h0;have d1 : decide ((l.length : Int) = 0) = false:=decide_eq_false (by omega);have d2 : ((l.length : Int) == 0) = false:=beq_eq_false_iff_ne.2 (by omega);rw [d0];clear h0 d0;cases ok
 all_goals (
  go_enter Tryd.func42,Tryd.ntmps42
  go_wp2
  go_ret
  exact ⟨by simp,rfl⟩)
end Go.Proofs.YtilckocpgififaaDoor.G
/- What the walk of code.taken needs: two results, a row of calls that grows by one, what taken is to show. -/
namespace Go.Proofs.YtilckocpgififaaDoor.G
open Go.RowKit Go.Shelf Go.Proofs.YtilckocpgififaaDoorW.PrintWords Go.Proofs.YtilckocpgififaaDoorW.PrintLast Go.Proofs.YtilckocpgififaaDoorW.PrintMore Go.Proofs.YtilckocpgififaaDoor.PNum
set_option linter.unusedVariables false
set_option linter.unusedSimpArgs false
theorem results_cell_tmp {P : Program} {fn : Func} {t u : Tmp} {ty : TypeId} (h : fn.results = #[.cell t ty,.tmp u]) (tmps : Array Value) {w : World} {g : Nat} {v : Value} (hp : tmps.getD t undef = .pointer (some ⟨g,0,none⟩)) (hv : (loadVar ty ⟨g,0,none⟩).run P w = .ok v w) :
 (results fn tmps).run P w = .ok (.tuple #[v,tmps.getD u undef]) w:=by
 have hp' : tmps[t]?.getD undef = .pointer (some ⟨g,0,none⟩):=by rw [← hp];simp
 simp [results,h,hp',asAddr,hv]
theorem R_shape {α : Type} {d : Kd α} {e : Nat} {w : World} {base : Nat} {ok : Nat → Prop} {v : Value} {xs : List α} (h : d.R e w base ok v xs) (hn : 0 < xs.length) (hs : 0 < d.sz) : ∃ g cap,v = .slice (some ⟨g,0,none⟩) xs.length cap ∧ xs.length ≤ cap:=by
 obtain ⟨A,c,hv,hc,hC⟩:=Kd.R_reads h;obtain ⟨_,inner,ho,hr⟩:=h
 rcases ho.2 with ⟨h2,_⟩ | ⟨g,cap,cur,h2,_⟩
 ·obtain ⟨ad,e1,_⟩:=hC.2.2 hn;rw [hv,e1] at h2;cases h2
 ·refine ⟨g,cap,h2,?_⟩;rw [hv] at h2
  injection h2 with _ _ h3
  omega
theorem put_last {w : World} {base bv cap : Nat} {ok okp : Nat → Prop} {ks : List S24} {z x : S24} {L : List Value} (h : k24.R 24 w base ok (.slice (some ⟨bv,0,none⟩) (ks.length + 1) cap) (ks ++ [z]))
 (hM : k24.M w base okp x L) (hokp : ∀ k,okp k → ok k ∧ k ≠ bv) :
 w.there bv (ks.length * 4) 4 ∧ k24.R 24 (w.setCells bv (ks.length * 4) L) base ok (.slice (some ⟨bv,0,none⟩) (ks.length + 1) cap) (ks ++ [x]) ∧ w.grownBy (w.setCells bv (ks.length * 4) L) (some bv):=by
 have hL : L.length = 4:=k24.K_len (k24.K_of_M hM);obtain ⟨c,hcl,_,hcc,hfr⟩:=Kd.R_elem h z (ks.length : Int) (by omega) (by omega);have hcl4 : c.length = 4:=hcl;rw [Int.toNat_natCast] at hcc hfr;have hcc4 : ∀ j u,c[j]? = some u → w.cell? ⟨bv,ks.length * 4 + j,none⟩ = some u:=hcc;have hfr4 : ∀ j,w.frozen? ⟨bv,ks.length * 4 + j,none⟩ = false:=hfr
 obtain ⟨h1,h2⟩:=Kd.R_seg h (ks.length : Int) (by omega) (by omega) (c:=c) (seg:=L) (j:=0) hcl (by rw [Int.toNat_natCast];exact hcc) (by rw [hL];exact Nat.le_refl _) (x':=x) (okp:=okp) (by
  rw [List.take_zero,List.nil_append,List.drop_of_length_le (by omega),List.append_nil];exact hM) hokp
 rw [Int.toNat_natCast] at h1 h2;refine ⟨fun j hj=>⟨?_,hfr4 j⟩,?_,h2⟩
 ·rw [hcc4 j c[j] (List.getElem?_eq_getElem (by omega))];rfl
 ·have e : (ks ++ [z]).set ks.length x = ks ++ [x]:=by rw [List.set_append_right _ _ (Nat.le_refl _),Nat.sub_self];rfl
  rw [e] at h1;exact h1
theorem zero_M (w : World) (base : Nat) (ok : Nat → Prop) : k24.M w base ok z24 zeroC:=k24_mkM w base ok z24 (Kd.R_nil _ _ _ _ _)
theorem zero_call : (Tryd.prog.info? 24).map (fun i=>(i.zero,i.size)) = some (some (.agg zeroC.toArray),4):=by kernel_rfl
theorem info_call : (Tryd.prog.info? 24).map (·.size) = some 4:=by kernel_rfl
theorem info_callz : (Tryd.prog.info? 24).map (fun i=>(i.zero,i.size,i.bytes)) = some (some (.agg zeroC.toArray),4,48):=by kernel_rfl
theorem built_call : Tryd.prog.built 24 [] = some zeroC.toArray:=by kernel_rfl
theorem zero_runC (w : World) : (zeroValue 24).run Tryd.prog w = .ok (.agg zeroC.toArray) w:=by
 have h:=zero_call
 cases hi : Tryd.prog.info? 24 with
 | none=>rw [hi] at h;cases h
 | some i=>rw [hi] at h;simp at h;simp [zeroValue,typeInfo,hi,h.1,go_sem]
theorem load_runO' {P : Program} {o : Oper} {a : Act} {w : World} {ty : TypeId} {y : Operand} {g off : Nat} {L : List Value} {d : TypeDesc} (ho : o.op = .load ty y) (hx : a.eval y = .pointer (some ⟨g,off,none⟩)) (h : w.rangeAt g off L) (hu : P.underlying ty = some d) (hd : d.isRow = true) (hi : (P.info? ty).map (·.size) = some L.length) :
 (execOp a.eval o).run P w = .ok (.value (.agg L.toArray)) w:=by
 unfold execOp
 simp only [ho,hx,Instr.loadAt,Instr.sureAddr,Sem.run_bind,Sem.run_pure,Result.andThen_ok,run_loadVar_mid w g off ty L d h hu hd hi]
theorem store_runO' {P : Program} {o : Oper} {a : Act} {w : World} {ty : TypeId} {x y : Operand} {g off : Nat} {L : List Value} (ho : o.op = .store ty x y) (hx : a.eval x = .pointer (some ⟨g,off,none⟩)) (hy : a.eval y = .agg L.toArray)
 (ht : w.there g off L.length) (hi : (P.info? ty).map (·.size) = some L.length) (h1 : ∀ v ∈ L,v.oneCell' = true) :
 (execOp a.eval o).run P w = .ok .skip (w.setCells g off L):=by
 unfold execOp
 simp only [ho,hx,hy,Instr.storeAt,Instr.sureAddr,Sem.run_bind,Sem.run_pure,Result.andThen_ok,run_storeVar_mid w g off ty L.toArray (by rw [List.size_toArray];exact ht) (by rw [List.size_toArray];exact hi) (all_oneCell_toArray h1)]
def TakenAt (f : Nat) (d : Int) : Prop:=∀ (A : Option Addr) (c : Nat) (l : List Int) (w : World),Kd.C (Kd.int .u8) w A l.length l → l.length ≤ c → IsBytes l → l.length < 140737488355328 →
 Calls Tryd.prog 23 #[.slice A l.length c,.int .i64 d] w fun e w'=>
  (∃ L : List Value,e = .returned (.tuple #[.agg L.toArray,.bool (takenF f l).isSome]) ∧ L.length = 4 ∧ (∀ v ∈ L,v.oneCell' = true) ∧ ∀ x,takenF f l = some x → k24.M w' w.heap.size (fun _=>True) x L) ∧ Below w.heap.size w w'
theorem below_setCells' {B : Nat} {w0 : World} (g : Nat) (hg : B ≤ g) : ∀ (L : List Value) (o : Nat) (w : World),Below B w0 w → Below B w0 (w.setCells g o L)
 | [],_,_,h=>h
 | v :: L,o,w,h=>below_setCells' g hg L (o + 1) _ (h.setCell (p:=⟨g,o,none⟩) hg v)
theorem kept_setCells (g o : Nat) (L : List Value) (w : World) : Kept (fun k=>k = g) w (w.setCells g o L):=by
 obtain ⟨h1,h2,h3,h4⟩:=setCells_same g L o w;exact ⟨h1,h2,h3,by rw [h4];exact Nat.le_refl _,fun k _ hk=>Go.Proofs.YtilckocpgififaaDoorW.PrintWords.setCells_far L o k hk⟩
theorem Kept.of_grown {w w' : World} {r : Option Nat} (h : w.grownBy w' r) : Kept (fun k=>some k = r) w w':=⟨h.os,h.tape,h.output,h.size,fun k hk hne=>h.block k hk hne⟩
theorem grow_kids {B R gc gn g4 bv cap : Nat} {w W w11 : World} {A2 : Option Addr} {c2 : Nat} {l2 : List Int} {ok2 : Bool} {a b c3 : Int} {v0 : Value} {L2 Z LK : List Value} {okq okK : Nat → Prop} {ks : List S24} {kx : S24}
 (hR : ReadAt B W R gc gn A2 c2 l2 ok2 [.int .i64 a,.int .i64 b,.int .i64 c3,v0] L2) (h4 : Lies W g4 Z) (hZ : 0 < Z.length) (hn4 : g4 ≠ R ∧ g4 ≠ gc ∧ g4 ≠ gn)
 (hokq : ∀ k,okq k → k ≠ R ∧ k ≠ gc ∧ k ≠ gn ∧ k ≠ g4) (hk : k24.M W B okK kx LK) (hokK : ∀ k,okK k → okq k ∧ k < W.heap.size ∧ some k ≠ v0.ownBlock) (hv0 : ∀ k,v0.ownBlock = some k → okq k ∧ B ≤ k)
 (hRA : k24.R 24 w11 B okq (.slice (some ⟨bv,0,none⟩) (ks.length + 1) cap) (ks ++ [z24])) (hB : Below B w w11) (hBW : B ≤ W.heap.size) (hg : W.grownBy w11 v0.ownBlock)
 (hat : (Value.slice (some ⟨bv,0,none⟩) (ks.length + 1) cap).ownBlock = v0.ownBlock ∨ ∃ q,(Value.slice (some ⟨bv,0,none⟩) (ks.length + 1) cap).ownBlock = some q ∧ W.heap.size ≤ q) :
 w11.there bv (ks.length * 4) 4 ∧ w11.frozen? ⟨gc,3,none⟩ = false ∧
 ((w11.setCells bv (ks.length * 4) LK).cell? ⟨gc,3,none⟩ = some v0 ∧ (w11.setCells bv (ks.length * 4) LK).frozen? ⟨gc,3,none⟩ = false) ∧
 (w11.setCell ⟨gc,3,none⟩ (.slice (some ⟨bv,0,none⟩) (ks.length + 1) cap)).there bv (ks.length * 4) 4 ∧
 ∀ wz,(wz = (w11.setCells bv (ks.length * 4) LK).setCell ⟨gc,3,none⟩ (.slice (some ⟨bv,0,none⟩) (ks.length + 1) cap) ∨ wz = (w11.setCell ⟨gc,3,none⟩ (.slice (some ⟨bv,0,none⟩) (ks.length + 1) cap)).setCells bv (ks.length * 4) LK) →
   ReadAt B wz R gc gn A2 c2 l2 ok2 [.int .i64 a,.int .i64 b,.int .i64 c3,.slice (some ⟨bv,0,none⟩) (ks.length + 1) cap] L2 ∧ Lies wz g4 Z ∧ k24.R 24 wz B okq (.slice (some ⟨bv,0,none⟩) (ks.length + 1) cap) (ks ++ [kx]) ∧ Below B w wz:=by
 have hown : (Value.slice (some ⟨bv,0,none⟩) (ks.length + 1) cap).ownBlock = some bv:=rfl;rw [hown] at hat;have hbq : okq bv:=hRA.1 bv hown;have hbB : B ≤ bv:=Kd.R_base hRA bv hown;obtain ⟨nR,nc,nn,n4⟩:=hokq bv hbq;have bad0 : ∀ g,(∀ k,okq k → k ≠ g) → ¬ (some g = v0.ownBlock):=fun g h e=>h g (hv0 g e.symm).1 rfl;have hk0:=Kept.of_grown hg;have hR11 : ReadAt B w11 R gc gn A2 c2 l2 ok2 [.int .i64 a,.int .i64 b,.int .i64 c3,v0] L2:=hR.kept hk0 (fun k e=>(hv0 k e.symm).2) (bad0 R fun k h=>(hokq k h).1) (bad0 gc fun k h=>(hokq k h).2.1) (bad0 gn fun k h=>(hokq k h).2.2.1);have h411 : Lies w11 g4 Z:=h4.kept hk0 hZ (bad0 g4 fun k h=>(hokq k h).2.2.2);have hK11 : k24.M w11 B okK kx LK:=Kd.M_step hk (fun k h hlt=>hg.block k hlt (hokK k h).2.2)
 have hKb : ∀ k,okK k → okq k ∧ k ≠ bv:=fun k h=>⟨(hokK k h).1,fun e=>by
  rcases hat with hat | ⟨q,hq,hle⟩
  ·exact (hokK k h).2.2 (by rw [e];exact hat)
  ·injection hq with hq
   have:=(hokK k h).2.1
   omega⟩
 obtain ⟨t1,r1,g1⟩:=put_last hRA hK11 hKb;have hk7 : Kept (fun k=>k = bv) w11 (w11.setCells bv (ks.length * 4) LK):=kept_setCells bv _ LK w11;have hR7:=hR11.kept hk7 (fun k e=>by rw [show k = bv from e];exact hbB) (fun e=>nR (show R = bv from e).symm) (fun e=>nc (show gc = bv from e).symm) (fun e=>nn (show gn = bv from e).symm);have h47:=h411.kept hk7 hZ (fun e=>n4 (show g4 = bv from e).symm);have hB7:=below_setCells' bv hbB LK (ks.length * 4) w11 hB;have hR9:=hR11.setOne 3 (by simp) (.slice (some ⟨bv,0,none⟩) (ks.length + 1) cap);have hRA9 : k24.R 24 (w11.setCell ⟨gc,3,none⟩ (.slice (some ⟨bv,0,none⟩) (ks.length + 1) cap)) B okq (.slice (some ⟨bv,0,none⟩) (ks.length + 1) cap) (ks ++ [z24]):=Kd.R_far hRA (p:=⟨gc,3,none⟩) (fun k h=>(hokq k h).2.1) _;have hK9 : k24.M (w11.setCell ⟨gc,3,none⟩ (.slice (some ⟨bv,0,none⟩) (ks.length + 1) cap)) B okK kx LK:=Kd.M_far hK11 (p:=⟨gc,3,none⟩) (fun k h=>(hokq k (hokK k h).1).2.1) _;obtain ⟨t2,r2,g2⟩:=put_last hRA9 hK9 hKb;have hB9:=hB.setCell (p:=⟨gc,3,none⟩) hR.at1 (.slice (some ⟨bv,0,none⟩) (ks.length + 1) cap);refine ⟨t1,hR11.one.frozen 3 (by simp),⟨hR7.one.cell (i:=3) rfl,hR7.one.frozen 3 (by simp)⟩,t2,fun wz hwz=>?_⟩
 rcases hwz with rfl | rfl
 ·exact ⟨hR7.setOne 3 (by simp) _,h47.set_far hn4.2.1 _ _,Kd.R_far r1 (p:=⟨gc,3,none⟩) (fun k h=>(hokq k h).2.1) _,hB7.setCell (p:=⟨gc,3,none⟩) hR.at1 _⟩
 ·have hk8:=kept_setCells bv (ks.length * 4) LK (w11.setCell ⟨gc,3,none⟩ (.slice (some ⟨bv,0,none⟩) (ks.length + 1) cap))
  exact ⟨hR9.kept hk8 (fun k e=>by rw [show k = bv from e];exact hbB) (fun e=>nR (show R = bv from e).symm) (fun e=>nc (show gc = bv from e).symm) (fun e=>nn (show gn = bv from e).symm),
   (h411.set_far hn4.2.1 3 (.slice (some ⟨bv,0,none⟩) (ks.length + 1) cap)).kept hk8 hZ (fun e=>n4 (show g4 = bv from e).symm),r2,below_setCells' bv hbB LK _ _ hB9⟩
theorem build_run0' {P : Program} {o : Oper} {a : Act} {W : World} {t : TypeId} {v : Value} (ho : o.op = .build t #[]) (hr : (Instr.build t #[]).run P W = .ok v W) : (execOp a.eval o).run P W = .ok (.value v) W:=by
 unfold execOp
 simp only [ho,List.map_toArray,List.map_nil,Sem.run_bind,hr,Result.andThen_ok,Sem.run_pure]
theorem slice_event' {P : Program} {ops : Array Oper} {rest : List Oper} {o : Oper} {a : Act} {Q : Exit → Act → World → Prop} {W : World} (hgd : o.guard = none) {N : Tmp} (_hd : o.dst = some N) {cs : Array Value} {t : TypeId} {n c : Nat}
 (hrun : (execOp a.eval o).run P W = .ok (.value (.slice (some ⟨W.heap.size,0,none⟩) n c)) (W.alloc (.cells cs t (0,0))))
 (h : ∀ g,g = W.heap.size → ∀ w1,w1.heap[g]? = some (.cells cs t (0,0)) → Below W.heap.size W w1 → wpList P ops Q rest (a.put o.dst (.slice (some ⟨g,0,none⟩) n c)) w1) : wpList P ops Q (o :: rest) a W:=
 Kd.event_run hgd hrun (h _ rfl _ (blk_new W _) (below_alloc (Below.refl _ _) _))
end Go.Proofs.YtilckocpgififaaDoor.G
/- The reference's reader: a number, a row, so many bytes; where it errs it tells nothing, and has erred. -/
namespace Go.Proofs.YtilckocpgififaaDoor.G
open Go.RowKit Go.Shelf Go.Proofs.YtilckocpgififaaDoorW.PrintWords Go.Proofs.YtilckocpgififaaDoorW.PrintLast Go.Proofs.YtilckocpgififaaDoorW.PrintMore Go.Proofs.YtilckocpgififaaDoor.PNum
set_option linter.unusedVariables false
set_option linter.unusedSimpArgs false
structure RdAt (B : Nat) (w : World) (R : Nat) (A : Option Addr) (c : Nat) (l : List Int) (ok : Bool) : Prop where
 reader : Lies w R [.slice A l.length c,.bool ok]
 cap : l.length ≤ c
 row : Kd.C (Kd.int .u8) w A l.length l
 far : ∀ ad,A = some ad → 0 < l.length → ad.block < B
 bytes : IsBytes l
 short : l.length < 140737488355328
 atR : B ≤ R
section
variable {B : Nat} {w w' : World} {R : Nat} {A A' : Option Addr} {c c' : Nat} {l l' : List Int} {ok : Bool}
theorem RdAt.below (h : RdAt B w R A c l ok) (hb : Below w.heap.size w w') : RdAt B w' R A c l ok:=
 { h with reader:=h.reader.below hb (h.reader.lt (by simp)),row:=Kd.C_below h.row hb }
theorem RdAt.drew (h : RdAt B w R A c l ok) : RdAt B w.drew R A c l ok:={ h with reader:=h.reader.drew,row:=Kd.C_drew h.row }
theorem RdAt.row_set (h : RdAt B w R A c l ok) {g : Nat} (hg : B ≤ g) (i : Nat) (v : Value) : Kd.C (Kd.int .u8) (w.setCell ⟨g,i,none⟩ v) A l.length l:=
 C_stays h.row (fun ad e hn=>Below.heap_setCell w ⟨g,i,none⟩ _ _ (fun q=>by have:=h.far ad e hn;have q' : ad.block = g:=q;omega))
theorem RdAt.setOk (h : RdAt B w R A c l ok) (b : Bool) : RdAt B (w.setCell ⟨R,1,none⟩ (.bool b)) R A c l b:=
 { h with reader:=h.reader.set 1 (by simp) _,row:=h.row_set h.atR _ _ }
theorem RdAt.setRest (h : RdAt B w R A c l ok) (hc : l'.length ≤ c') (hr : Kd.C (Kd.int .u8) w A' l'.length l') (hl : IsBytes l') (hs : l'.length < 140737488355328)
 (hA : ∀ ad',A' = some ad' → 0 < l'.length → ad'.block < B) : RdAt B (w.setCell ⟨R,0,none⟩ (.slice A' l'.length c')) R A' c' l' ok:=
 { h with reader:=h.reader.set 0 (by simp) _,cap:=hc,row:=C_stays hr (fun ad e hn=>Below.heap_setCell w ⟨R,0,none⟩ _ _ (fun q=>by have:=hA ad e hn;have:=h.atR;have q' : ad.block = R:=q;omega)),far:=hA,bytes:=hl,short:=hs }
theorem RdAt.kept {bad : Nat → Prop} (h : RdAt B w R A c l ok) (hk : Kept bad w w') (hb : ∀ k,bad k → B ≤ k) (hR : ¬ bad R) : RdAt B w' R A c l ok:=
 { h with reader:=h.reader.kept hk (by simp) hR,row:=C_stays h.row (fun ad e hn=>hk.block _ (by subst e;exact Kd.C_lt h.row hn (by decide)) (fun q=>by have:=hb _ q;have:=h.far ad e hn;omega)) }
theorem RdAt.set_else (h : RdAt B w R A c l ok) {g : Nat} (hg : B ≤ g) (hR : R ≠ g) (i : Nat) (v : Value) : RdAt B (w.setCell ⟨g,i,none⟩ v) R A c l ok:=
 { h with reader:=h.reader.set_far hR _ _,row:=h.row_set hg _ _ }
end
def RowRet (B : Nat) (w' : World) (e : Ending) (p : List Int) : Prop:=∃ A1 c1,e = .returned (.slice A1 p.length c1) ∧ p.length ≤ c1 ∧ Kd.C (Kd.int .u8) w' A1 p.length p ∧ (∀ ad,A1 = some ad → 0 < p.length → ad.block < B)
def rnum (l : List Int) (e : Bool) : Int × List Int × Bool:=if (e || !okN l) = true then (0,l,true) else (valT l,restT l,false)
def rrow (l : List Int) (e : Bool) : List Int × List Int × Bool:=if (e || !(rowT l).2.2) = true then ([],l,true) else ((rowT l).1,l.drop (rowT l).2.1,false)
set_option maxRecDepth 100000 in
set_option maxHeartbeats 4000000 in
theorem rnum_calls (B R : Nat) (A : Option Addr) (c : Nat) (l : List Int) (er : Bool) (w : World) (hR : RdAt B w R A c l er) :
 Calls Tryd.prog 43 #[.pointer (some ⟨R,0,none⟩)] w fun e w'=>e = .returned (.int .i64 (rnum l er).1) ∧
  (∃ A' c',RdAt B w' R A' c' (rnum l er).2.1 (rnum l er).2.2) ∧ Kept (fun k=>k = R) w w':=by
 have hct:=rtake_tells 40 l hR.bytes (by have:=hR.short;omega) (by decide);rw [numT_out] at hct;have hsz:=numT_size hR.bytes;obtain ⟨v,hv⟩ : ∃ v,(numT l).1 = v:=⟨_,rfl⟩;obtain ⟨s,hs⟩ : ∃ s,(numT l).2.1 = s:=⟨_,rfl⟩;obtain ⟨k',hk'⟩ : ∃ k',(numT l).2.2 = k':=⟨_,rfl⟩
 have hrn : rnum l er = if (er || !k') = true then (0,l,true) else (v,l.drop s,false):=by unfold rnum okN valT restT;rw [hv,hs,hk']
 rw [hv,hs,hk'] at hct;rw [hs] at hsz;have HRN:=am hrn;obtain ⟨i8,hi8,_,hsz8,_⟩:=info_parts info5;obtain ⟨A2,hcut,hCr,hcc,hAA⟩:=cut_tail (P:=Tryd.prog) 26 5 Tryd.underlying26 hi8 hsz8 A c l s hsz hR.cap;have HCT:=am hct;have HR:=am hR;have HCR:=am hCr;have HCC:=am hcc;have HAA:=am hAA;have r0:=hR.reader.cell (i:=0) (v:= .slice A l.length c) rfl;clear hct hR hCr hcc hAA hv hs hk' hi8 hsz8 hsz hrn
 cases er <;> cases k'
 case false.true=>
  go_enter Tryd.func43,Tryd.ntmps43
  go_upto_region 5 with (go_at_call 61;go_loud ((with_reducible refine (althingref1_Take.calls 40 A c l v (s : Int) true _ HR.out.row HR.out.cap HCT.out).mono ?_);rintro e w1 ⟨rfl,hb_⟩;have HR1:=am (HR.out.below hb_);have HK1:=am ((Kept.refl (fun k=>k = R) w).below hb_);clear hb_;clear r0;have q1:=HR1.out.reader.cell (i:=1) (v:= .bool _) rfl))
  clear q1;have r0:=HR1.out.reader.cell (i:=0) (v:= .slice A l.length c) rfl;have f0:=HR1.out.reader.frozen 0 (by simp)
  have n1_:=HR1.out.setRest (A':=A2) (c':=c - s) (l':=l.drop s) (by rw [List.length_drop];exact HCC.out) (HCR.out _ _ HR1.out.row) (HR1.out.bytes.drop s) (by rw [List.length_drop];have:=HR1.out.short;omega) (fun ad' e hn=>by
   obtain ⟨ad,e1,e2⟩:=HAA.out ad' e
   rw [e2];exact HR1.out.far ad e1 (by rw [List.length_drop] at hn;omega))
  have k1_:=HK1.out.set (g:=R) rfl 0 (.slice A2 (l.length - s) (c - s));rw [List.length_drop] at n1_;have N1:=am n1_;have K1:=am k1_;clear n1_ k1_
  go_wp2
  go_ret
  rw [HRN.out];exact ⟨rfl,⟨A2,c - s,N1.out⟩,K1.out⟩
 all_goals (
  go_enter Tryd.func43,Tryd.ntmps43
  go_wp2_with (go_at_call 61;go_loud ((with_reducible refine (althingref1_Take.calls 40 A c l v (s : Int) _ _ HR.out.row HR.out.cap HCT.out).mono ?_);rintro e w1 ⟨rfl,hb_⟩;have HR1:=am (HR.out.below hb_);have HK1:=am ((Kept.refl (fun k=>k = R) w).below hb_);clear hb_;clear r0;have q1:=HR1.out.reader.cell (i:=1) (v:= .bool _) rfl;have q2:=HR1.out.reader.frozen 1 (by simp)))
  go_ret
  rw [HRN.out]
  exact ⟨rfl,⟨A,c,HR1.out.setOk true⟩,HK1.out.set (g:=R) rfl 1 _⟩)
set_option maxRecDepth 100000 in
set_option maxHeartbeats 4000000 in
theorem rrow_calls (B R : Nat) (A : Option Addr) (c : Nat) (l : List Int) (er : Bool) (w : World) (hR : RdAt B w R A c l er) :
 Calls Tryd.prog 44 #[.pointer (some ⟨R,0,none⟩)] w fun e w'=>
  RowRet B w' e (rrow l er).1 ∧
  (∃ A' c',RdAt B w' R A' c' (rrow l er).2.1 (rrow l er).2.2) ∧ Kept (fun k=>k = R) w w':=by
 have hsz:=rowT_size hR.bytes;have hct:=rcut_tells 40 l hR.bytes hR.short (by decide);rw [rowT_out] at hct;obtain ⟨p,hp⟩ : ∃ p,(rowT l).1 = p:=⟨_,rfl⟩;obtain ⟨s,hs⟩ : ∃ s,(rowT l).2.1 = s:=⟨_,rfl⟩;obtain ⟨k',hk'⟩ : ∃ k',(rowT l).2.2 = k':=⟨_,rfl⟩
 have hrn : rrow l er = if (er || !k') = true then ([],l,true) else (p,l.drop s,false):=by unfold rrow;rw [hp,hs,hk']
 rw [hp,hs,hk'] at hct;rw [hs] at hsz;have HRN:=am hrn;have hBw : B ≤ w.heap.size:=Nat.le_trans hR.atR (Nat.le_of_lt (hR.reader.lt (by simp)));have hcall:=althingref1_Cut.calls 40 A c l p (s : Int) k' B w hR.row hR.far hBw hR.cap hct;obtain ⟨i8,hi8,_,hsz8,_⟩:=info_parts info5;obtain ⟨A2,hcut,hCr,hcc,hAA⟩:=cut_tail (P:=Tryd.prog) 26 5 Tryd.underlying26 hi8 hsz8 A c l s hsz.1 hR.cap;have HCALL:=am hcall;have HR:=am hR;have HCR:=am hCr;have HCC:=am hcc;have HAA:=am hAA;have r0:=hR.reader.cell (i:=0) (v:= .slice A l.length c) rfl;clear hct hR hCr hcc hAA hp hs hk' hi8 hsz8 hsz hrn hBw hcall
 cases er <;> cases k'
 case false.true=>
  go_enter Tryd.func44,Tryd.ntmps44
  go_upto_region 5 with (go_at_call 62;go_loud ((with_reducible refine HCALL.out.mono ?_);rintro e w1 ⟨v0,rfl,hr_,hb_⟩;obtain ⟨⟨A1,c1,hv_,hC1_,hc1_⟩,hfb_,_⟩:=hr_;subst hv_;have HFB:=am hfb_;have HC1:=am hc1_;have HCP:=am hC1_;clear hfb_ hc1_ hC1_;have HR1:=am (HR.out.below hb_);have HK1:=am ((Kept.refl (fun k=>k = R) w).below hb_);clear hb_;clear r0;have q1:=HR1.out.reader.cell (i:=1) (v:= .bool _) rfl))
  clear q1;have r0:=HR1.out.reader.cell (i:=0) (v:= .slice A l.length c) rfl;have f0:=HR1.out.reader.frozen 0 (by simp)
  have n1_:=HR1.out.setRest (A':=A2) (c':=c - s) (l':=l.drop s) (by rw [List.length_drop];exact HCC.out) (HCR.out _ _ HR1.out.row) (HR1.out.bytes.drop s) (by rw [List.length_drop];have:=HR1.out.short;omega) (fun ad' e hn=>by
   obtain ⟨ad,e1,e2⟩:=HAA.out ad' e
   rw [e2];exact HR1.out.far ad e1 (by rw [List.length_drop] at hn;omega))
  have k1_:=HK1.out.set (g:=R) rfl 0 (.slice A2 (l.length - s) (c - s));rw [List.length_drop] at n1_;have hfb : ∀ ad,A1 = some ad → 0 < p.length → ad.block < B:=fun ad e _=>HFB.out ad.block (by rw [e];simp [Value.ownBlock]);have c1_ : Kd.C (Kd.int .u8) (w1.setCell ⟨R,0,none⟩ (.slice A2 (l.length - s) (c - s))) A1 p.length p:=C_stays HCP.out (fun ad e hn=>Below.heap_setCell w1 ⟨R,0,none⟩ _ _ (fun q=>by have:=hfb ad e hn;have:=HR.out.atR;have q' : ad.block = R:=q;omega));have N1:=am n1_;have K1:=am k1_;have C1:=am c1_;have HF1:=am hfb;clear n1_ k1_ c1_ hfb
  go_wp2
  go_ret
  rw [HRN.out];exact ⟨⟨A1,c1,rfl,HC1.out,C1.out,HF1.out⟩,⟨A2,c - s,N1.out⟩,K1.out⟩
 all_goals (
  go_enter Tryd.func44,Tryd.ntmps44
  go_wp2_with (go_at_call 62;go_loud ((with_reducible refine HCALL.out.mono ?_);rintro e w1 ⟨v0,rfl,hr_,hb_⟩;obtain ⟨⟨A1,c1,hv_,hC1_,hc1_⟩,hfb_,_⟩:=hr_;subst hv_;clear hfb_ hc1_ hC1_;have HR1:=am (HR.out.below hb_);have HK1:=am ((Kept.refl (fun k=>k = R) w).below hb_);clear hb_;clear r0;have q1:=HR1.out.reader.cell (i:=1) (v:= .bool _) rfl;have q2:=HR1.out.reader.frozen 1 (by simp)))
  go_ret
  rw [HRN.out]
  exact ⟨⟨none,0,rfl,Nat.le_refl _,Kd.C_nil _ _,fun _ h _=>by cases h⟩,⟨A,c,HR1.out.setOk true⟩,HK1.out.set (g:=R) rfl 1 _⟩)
end Go.Proofs.YtilckocpgififaaDoor.G
/- What was told as bytes is read as it was, plainly; what is read was told so. -/
namespace Go.Proofs.YtilckocpgififaaDoor.G
open Go.RowKit Go.Shelf Go.Proofs.YtilckocpgififaaDoorW.PrintWords Go.Proofs.YtilckocpgififaaDoorW.PrintMore Go.Proofs.YtilckocpgififaaDoor.PNum
set_option linter.unusedVariables false
set_option linter.unusedSimpArgs false
/-! ### a number, a row -/
def Small (n : Int) : Prop:=0 ≤ n ∧ n ≤ 4611686018427387904
theorem numT_put {n : Int} (h : Small n) (t : List Int) : numT (numB n ++ t) = (n,sizeN n,true):=by
 unfold numT;rw [takeN_put h.1 h.2 t]
theorem restT_put {n : Int} (h : Small n) (t : List Int) : restT (numB n ++ t) = t:=by
 unfold restT;rw [numT_put h,← numB_length n];exact List.drop_left' rfl
theorem valT_put {n : Int} (h : Small n) (t : List Int) : valT (numB n ++ t) = n:=by unfold valT;rw [numT_put h]
theorem okN_put {n : Int} (h : Small n) (t : List Int) : okN (numB n ++ t) = true:=by unfold okN;rw [numT_put h]
theorem numT_tells {l : List Int} (hl : IsBytes l) (h : okN l = true) : Small (valT l) ∧ l = numB (valT l) ++ restT l:=by
 unfold okN valT restT numT at *
 cases e : takeN l with
 | none=>rw [e] at h;cases h
 | some x=>
   obtain ⟨n,s⟩:=x;obtain ⟨h0,h1,h2,h3,h4⟩:=takeN_tells hl e;refine ⟨⟨h0,h1⟩,?_⟩
   dsimp only
   rw [← h4,List.take_append_drop]
theorem cutN_put (p t : List Int) (hp : p.length ≤ 4611686018427387904) : cutN (rowB p ++ t) = some (p,(rowB p).length):=by
 unfold cutN rowB
 rw [List.append_assoc,takeN_put (by omega) (by omega)]
 dsimp only
 rw [if_neg (by rw [List.length_append,numB_length,List.length_append];omega),Int.toNat_natCast,List.length_append,numB_length]
 congr 2
 rw [← List.append_assoc,List.take_left' (by rw [List.length_append,numB_length]),List.drop_left' (numB_length _)]
theorem rowT_put (p t : List Int) (hp : p.length ≤ 4611686018427387904) : rowT (rowB p ++ t) = (p,(rowB p).length,true):=by
 unfold rowT;rw [cutN_put p t hp]
theorem rowT_tells {l : List Int} (hl : IsBytes l) (h : (rowT l).2.2 = true) : l = rowB (rowT l).1 ++ l.drop (rowT l).2.1:=by
 unfold rowT at *
 cases e : cutN l with
 | none=>rw [e] at h;cases h
 | some x=>
   obtain ⟨p,s⟩:=x
   dsimp only
   unfold cutN at e
   cases eT : takeN l with
   | none=>rw [eT] at e;cases e
   | some y=>
     obtain ⟨n,s0⟩:=y;obtain ⟨h0,h1,h2,h3,h4⟩:=takeN_tells hl eT;rw [eT] at e
     dsimp only at e
     by_cases c : (l.length : Int) - s0 < n
     ·rw [if_pos c] at e;cases e
     rw [if_neg c] at e
     injection e with e
     injection e with e1 e2
     have hpl : p.length = n.toNat:=by rw [← e1,List.length_drop,List.length_take];omega
     have hn : ((p.length : Nat) : Int) = n:=by omega
     have e3 : l.take s = l.take s0 ++ p:=by
      rw [← e1,← e2];have:=List.take_append_drop s0 (l.take (s0 + n.toNat));rw [List.take_take,Nat.min_eq_left (by omega)] at this;exact this.symm
     unfold rowB
     rw [hn,← h4,← e3,List.take_append_drop]
/-! ### the kids -/
theorem kids_put (dec : List Int → Option S24) (enc : S24 → List Int) (l : List S24) (hl : ∀ x ∈ l,(enc x).length ≤ 4611686018427387904 ∧ dec (enc x) = some x) (t : List Int) :
 ∀ (acc : List S24),kidsA dec l.length (rowsB (l.map enc) ++ t) true acc = some (acc ++ l,t,true):=by
 induction l with
 | nil=>intro acc;simp [kidsA,rowsB]
 | cons x l ih=>
   intro acc;obtain ⟨h1,h2⟩:=hl x (by simp);rw [List.length_cons,kidsA,List.map_cons,rowsB_cons,List.append_assoc,rowT_put _ _ h1]
   dsimp only
   rw [h2]
   dsimp only
   rw [List.drop_left' rfl,Bool.and_true,ih (fun y hy=>hl y (by simp [hy]))]
   simp
theorem kids_false (dec : List Int → Option S24) : ∀ (n : Nat) (l : List Int) (acc ks : List S24) (r : List Int) (ok : Bool),kidsA dec n l false acc = some (ks,r,ok) → ok = false
 | 0,l,acc,ks,r,ok,h=>by simp only [kidsA,Option.some.injEq,Prod.mk.injEq] at h;exact h.2.2.symm
 | n + 1,l,acc,ks,r,ok,h=>by
   unfold kidsA at h
   cases e : dec (rowT l).1 with
   | none=>rw [e] at h;cases h
   | some k=>rw [e] at h;dsimp only at h;rw [Bool.false_and] at h;exact kids_false dec n _ _ _ _ _ h
theorem kids_tells (dec : List Int → Option S24) (enc : S24 → List Int) (hd : ∀ l x,IsBytes l → dec l = some x → l = enc x) :
 ∀ (n : Nat) (l : List Int) (acc ks : List S24) (r : List Int),IsBytes l → kidsA dec n l true acc = some (ks,r,true) → ∃ m,ks = acc ++ m ∧ m.length = n ∧ l = rowsB (m.map enc) ++ r
 | 0,l,acc,ks,r,hl,h=>by
   simp only [kidsA,Option.some.injEq,Prod.mk.injEq] at h;exact ⟨[],by rw [List.append_nil];exact h.1.symm,rfl,by rw [← h.2.1];rfl⟩
 | n + 1,l,acc,ks,r,hl,h=>by
   unfold kidsA at h
   cases e : dec (rowT l).1 with
   | none=>rw [e] at h;cases h
   | some k=>
     rw [e] at h
     dsimp only at h
     rw [Bool.true_and] at h
     cases e2 : (rowT l).2.2 with
     | false=>rw [e2] at h;exact absurd (kids_false dec _ _ _ _ _ _ h) (by decide)
     | true=>
       rw [e2] at h;obtain ⟨m,h1,h2,h3⟩:=kids_tells dec enc hd n _ _ _ _ (hl.drop _) h;refine ⟨k :: m,by rw [h1];simp,by simp [h2],?_⟩;have hk:=hd _ k (rowT_size hl).2.2 e;rw [List.map_cons,rowsB_cons,List.append_assoc,← h3,← hk];exact rowT_tells hl e2
/-! ### a call -/
theorem okT_small {f : Nat} {c : S24} (h : okT f c = true) : Small c.f0 ∧ Small c.f1 ∧ Small c.f2 ∧ c.f3.length ≤ 4:=by
 have leaf : leafOk c.f0 c.f1 c.f2 c.f3 = true → Small c.f0 ∧ Small c.f1 ∧ Small c.f2 ∧ c.f3.length ≤ 4:=by
  intro h
  unfold leafOk at h
  unfold Small
  split at h
  ·simp only [Bool.and_eq_true,decide_eq_true_eq] at h;omega
  ·split at h
   ·simp only [Bool.and_eq_true,decide_eq_true_eq] at h;omega
   ·split at h
    ·simp only [Bool.and_eq_true,decide_eq_true_eq] at h;omega
    ·cases h
 cases f with
 | zero=>unfold okT okC at h;exact leaf h
 | succ f=>
   unfold okT okC at h
   by_cases h5 : c.f0 = 5
   rotate_left
   ·rw [if_neg h5] at h;exact leaf h
   rw [if_pos h5] at h;simp only [Bool.and_eq_true,decide_eq_true_eq] at h
   unfold Small
   omega
theorem head_put {c : S24} (h0 : Small c.f0) (h1 : Small c.f1) (h2 : Small c.f2) (h3 : c.f3.length ≤ 4) (t : List Int) :
 headOk (numsB [c.f0,c.f1,c.f2,(c.f3.length : Int)] ++ t) = true ∧ kidsN (numsB [c.f0,c.f1,c.f2,(c.f3.length : Int)] ++ t) = (c.f3.length : Int) ∧ bodyT (numsB [c.f0,c.f1,c.f2,(c.f3.length : Int)] ++ t) = t ∧
 valT (numsB [c.f0,c.f1,c.f2,(c.f3.length : Int)] ++ t) = c.f0 ∧ valT (restT (numsB [c.f0,c.f1,c.f2,(c.f3.length : Int)] ++ t)) = c.f1 ∧ valT (restT (restT (numsB [c.f0,c.f1,c.f2,(c.f3.length : Int)] ++ t))) = c.f2:=by
 have hn : Small (c.f3.length : Int):=by unfold Small;omega
 have e : numsB [c.f0,c.f1,c.f2,(c.f3.length : Int)] ++ t = numB c.f0 ++ (numB c.f1 ++ (numB c.f2 ++ (numB (c.f3.length : Int) ++ t))):=by simp [numsB]
 rw [e]
 unfold headOk kidsN bodyT
 simp only [restT_put h0,restT_put h1,restT_put h2,restT_put hn,valT_put h0,valT_put h1,valT_put h2,valT_put hn,okN_put h0,okN_put h1,okN_put h2,okN_put hn,Bool.and_self,and_self]
theorem call_eta (c : S24) : (⟨c.f0,c.f1,c.f2,c.f3⟩ : S24) = c:=by cases c;rfl
theorem taken_put : ∀ (f : Nat) (c : S24),f ≤ 3 → okT f c = true → takenF (f + 1) (encC f c) = some c
 | 0,c,hf,h=>by
   obtain ⟨h0,h1,h2,h3⟩:=okT_small h;have hk:=okT_leaf h;obtain ⟨a1,a2,a3,a4,a5,a6⟩:=head_put h0 h1 h2 h3 [];rw [List.append_nil] at a1 a2 a3 a4 a5 a6;rw [hk] at a1 a2 a3 a4 a5 a6
   unfold encC takenF
   rw [hk,a1,a2,a3,if_neg (by simp)];rw [a4,a5,a6];simp only [List.length_nil,Int.toNat_natCast,kidsA];rw [if_pos (by simp),← hk,call_eta]
 | f + 1,c,hf,h=>by
   obtain ⟨h0,h1,h2,h3⟩:=okT_small h;obtain ⟨h4,hk⟩:=okT_kids h;obtain ⟨a1,a2,a3,a4,a5,a6⟩:=head_put h0 h1 h2 h3 (rowsB (c.f3.map (encC f)))
   unfold encC takenF
   have:=kids_put (takenF (f + 1)) (encC f) c.f3 (fun x hx=>⟨by have:=encC_most f x (hk x hx);have:=mostC_small (f:=f) (by omega);omega,taken_put f x (by omega) (hk x hx)⟩) [] [];rw [List.append_nil,List.nil_append] at this;rw [a1,a2,a3,a4,a5,a6,if_neg (by simp;omega),Int.toNat_natCast,this]
   dsimp only
   rw [if_pos (by simp),call_eta]
theorem taken_tells : ∀ (f : Nat) (l : List Int) (c : S24),IsBytes l → takenF (f + 1) l = some c → l = encC f c
 | f,l,c,hl,h=>by
   unfold takenF at h
   by_cases hb : headOk l = false ∨ kidsN l > 4
   ·rw [if_pos hb] at h;cases h
   rw [if_neg hb] at h
   have hh : headOk l = true:=by
    cases e : headOk l with
    | true=>rfl
    | false=>exact absurd (Or.inl e) hb
   unfold headOk at hh
   simp only [Bool.and_eq_true] at hh;obtain ⟨⟨⟨k0,k1⟩,k2⟩,k3⟩:=hh;have b1:=restT_bytes hl;have b2:=restT_bytes b1;have b3:=restT_bytes b2;have b4:=restT_bytes b3;obtain ⟨s0,e0⟩:=numT_tells hl k0;obtain ⟨s1,e1⟩:=numT_tells b1 k1;obtain ⟨s2,e2⟩:=numT_tells b2 k2;obtain ⟨s3,e3⟩:=numT_tells b3 k3
   cases hka : kidsA (takenF f) (kidsN l).toNat (bodyT l) true [] with
   | none=>rw [hka] at h;cases h
   | some x=>
     obtain ⟨ks,r,ok⟩:=x;rw [hka] at h
     dsimp only at h
     by_cases hr : (ok && decide (r.length = 0)) = true
     rotate_left
     ·rw [if_neg hr] at h;cases h
     rw [if_pos hr] at h
     injection h with h
     simp only [Bool.and_eq_true,decide_eq_true_eq] at hr;obtain ⟨rfl,hr⟩:=hr;have hr:=List.eq_nil_of_length_eq_zero hr;subst hr;subst h;have hn : (((kidsN l).toNat : Nat) : Int) = kidsN l:=Int.toNat_of_nonneg s3.1
     have tail : ∀ (enc : S24 → List Int),(∀ l x,IsBytes l → takenF f l = some x → l = enc x) → l = numsB [valT l,valT (restT l),valT (restT (restT l)),(ks.length : Int)] ++ rowsB (ks.map enc):=by
      intro enc hd;obtain ⟨m,h1,h2,h3⟩:=kids_tells (takenF f) enc hd _ _ _ _ _ b4 hka;rw [List.nil_append] at h1;subst h1;rw [List.append_nil] at h3;rw [h2,hn,← h3]
      conv=>lhs;rw [e0,e1,e2,e3]
      simp [numsB,kidsN]
     match f with
     | 0=>
       have h0:=tail (fun _=>[]) (fun l x _ h=>by cases h)
       have hks : ks = []:=by
        cases hN : (kidsN l).toNat with
        | zero=>rw [hN] at hka;simp only [kidsA,Option.some.injEq,Prod.mk.injEq] at hka;exact hka.1.symm
        | succ n=>rw [hN] at hka;simp [kidsA,takenF] at hka
       subst hks
       unfold encC
       rw [List.map_nil] at h0
       simpa [rowsB] using h0
     | f + 1=>
       unfold encC
       exact tail (encC f) (fun l x hl hx=>taken_tells f l x hl hx)
end Go.Proofs.YtilckocpgififaaDoor.G
/- Bytes as a call, plainly, as the reference reads them: what was told as bytes is read as it was. -/
namespace Go.Proofs.YtilckocpgififaaDoor.G
open Go.RowKit Go.Shelf Go.Proofs.YtilckocpgififaaDoorW.PrintWords Go.Proofs.YtilckocpgififaaDoorW.PrintMore Go.Proofs.YtilckocpgififaaDoor.PNum
set_option linter.unusedVariables false
set_option linter.unusedSimpArgs false
def kidsR (dec : List Int → S24) : Nat → List Int → Bool → List S24 → List S24
 | 0,_,_,acc=>acc
 | m + 1,l,e,acc=>if e = true then acc else kidsR dec m (rrow l false).2.1 (rrow l false).2.2 (acc ++ [dec (rrow l false).1])
def rn1 (l : List Int) : Int × List Int × Bool:=rnum l false
def rn2 (l : List Int) : Int × List Int × Bool:=rnum (rn1 l).2.1 (rn1 l).2.2
def rn3 (l : List Int) : Int × List Int × Bool:=rnum (rn2 l).2.1 (rn2 l).2.2
def rn4 (l : List Int) : Int × List Int × Bool:=rnum (rn3 l).2.1 (rn3 l).2.2
def readF : Nat → List Int → S24
 | 0,l=>⟨(rn1 l).1,(rn2 l).1,(rn3 l).1,[]⟩
 | f + 1,l=>⟨(rn1 l).1,(rn2 l).1,(rn3 l).1,kidsR (readF f) (min (rn4 l).1.toNat 4) (rn4 l).2.1 (rn4 l).2.2 []⟩
theorem rnum_range {l : List Int} (hl : IsBytes l) (e : Bool) : 0 ≤ (rnum l e).1 ∧ (rnum l e).1 ≤ 4611686018427387904:=by
 unfold rnum
 split
 ·exact ⟨Int.le_refl _,by show (0 : Int) ≤ 4611686018427387904;decide⟩
 ·exact numT_range hl
theorem rnum_bytes {l : List Int} (hl : IsBytes l) (e : Bool) : IsBytes (rnum l e).2.1:=by
 unfold rnum
 split
 ·exact hl
 ·exact restT_bytes hl
theorem rrow_bytes {l : List Int} (hl : IsBytes l) (e : Bool) : IsBytes (rrow l e).2.1 ∧ IsBytes (rrow l e).1 ∧ (rrow l e).1.length ≤ l.length:=by
 unfold rrow
 split
 ·exact ⟨hl,fun c hc=>(by cases hc),Nat.zero_le _⟩
 ·exact ⟨hl.drop _,(rowT_size hl).2.2,(rowT_size hl).2.1⟩
theorem rnum_put {n : Int} (h : Small n) (t : List Int) : rnum (numB n ++ t) false = (n,t,false):=by
 unfold rnum;rw [okN_put h,valT_put h,restT_put h];rfl
theorem rrow_put (p t : List Int) (hp : p.length ≤ 4611686018427387904) : rrow (rowB p ++ t) false = (p,t,false):=by
 unfold rrow;rw [rowT_put p t hp];simp
theorem kidsR_put (dec : List Int → S24) (enc : S24 → List Int) (l : List S24) (hl : ∀ x ∈ l,(enc x).length ≤ 4611686018427387904 ∧ dec (enc x) = x) (t : List Int) :
 ∀ (acc : List S24),kidsR dec l.length (rowsB (l.map enc) ++ t) false acc = acc ++ l:=by
 induction l with
 | nil=>intro acc;simp [kidsR,rowsB]
 | cons x l ih=>
   intro acc;obtain ⟨h1,h2⟩:=hl x (by simp);rw [List.length_cons,kidsR,if_neg (by decide),List.map_cons,rowsB_cons,List.append_assoc,rrow_put _ _ h1]
   dsimp only
   rw [h2,ih (fun y hy=>hl y (by simp [hy]))]
   simp
theorem readHead_put {c : S24} (h0 : Small c.f0) (h1 : Small c.f1) (h2 : Small c.f2) (h3 : c.f3.length ≤ 4) (t : List Int) :
 rn1 (numsB [c.f0,c.f1,c.f2,(c.f3.length : Int)] ++ t) = (c.f0,numsB [c.f1,c.f2,(c.f3.length : Int)] ++ t,false) ∧ rn2 (numsB [c.f0,c.f1,c.f2,(c.f3.length : Int)] ++ t) = (c.f1,numsB [c.f2,(c.f3.length : Int)] ++ t,false) ∧
 rn3 (numsB [c.f0,c.f1,c.f2,(c.f3.length : Int)] ++ t) = (c.f2,numsB [(c.f3.length : Int)] ++ t,false) ∧ rn4 (numsB [c.f0,c.f1,c.f2,(c.f3.length : Int)] ++ t) = ((c.f3.length : Int),t,false):=by
 have hn : Small (c.f3.length : Int):=by unfold Small;omega
 have e : ∀ (n : Int) (ns s : List Int),numsB (n :: ns) ++ s = numB n ++ (numsB ns ++ s):=fun n ns s=>by simp [numsB]
 have e0 : ∀ (s : List Int),numsB [] ++ s = s:=fun s=>by simp [numsB]
 have k1 : rn1 (numsB [c.f0,c.f1,c.f2,(c.f3.length : Int)] ++ t) = (c.f0,numsB [c.f1,c.f2,(c.f3.length : Int)] ++ t,false):=by unfold rn1;rw [e,rnum_put h0]
 have k2 : rn2 (numsB [c.f0,c.f1,c.f2,(c.f3.length : Int)] ++ t) = (c.f1,numsB [c.f2,(c.f3.length : Int)] ++ t,false):=by unfold rn2;rw [k1];dsimp only;rw [e,rnum_put h1]
 have k3 : rn3 (numsB [c.f0,c.f1,c.f2,(c.f3.length : Int)] ++ t) = (c.f2,numsB [(c.f3.length : Int)] ++ t,false):=by unfold rn3;rw [k2];dsimp only;rw [e,rnum_put h2]
 refine ⟨k1,k2,k3,?_⟩
 unfold rn4;rw [k3];dsimp only;rw [e,rnum_put hn,e0]
theorem read_put : ∀ (f : Nat) (c : S24),f ≤ 3 → okT f c = true → readF f (encC f c) = c
 | 0,c,hf,h=>by
   obtain ⟨h0,h1,h2,h3⟩:=okT_small h;have hk:=okT_leaf h;obtain ⟨a1,a2,a3,_⟩:=readHead_put h0 h1 h2 h3 [];rw [List.append_nil] at a1 a2 a3
   unfold encC readF
   rw [a1,a2,a3]
   dsimp only
   rw [← hk,call_eta]
 | f + 1,c,hf,h=>by
   obtain ⟨h0,h1,h2,h3⟩:=okT_small h;obtain ⟨h4,hk⟩:=okT_kids h;obtain ⟨a1,a2,a3,a4⟩:=readHead_put h0 h1 h2 h3 (rowsB (c.f3.map (encC f)));have:=kidsR_put (readF f) (encC f) c.f3 (fun x hx=>⟨by have:=encC_most f x (hk x hx);have:=mostC_small (f:=f) (by omega);omega,read_put f x (by omega) (hk x hx)⟩) [] [];rw [List.append_nil,List.nil_append] at this
   unfold encC readF
   rw [a1,a2,a3,a4]
   dsimp only
   rw [Int.toNat_natCast,Nat.min_eq_left h3,this,call_eta]
def decF0 (l : List Int) : Option S24:=match takenF 4 l with
 | some x=>if okT 3 x = true then some x else none
 | none=>none
theorem decF_read {l : List Int} (hl : IsBytes l) : decF0 l = if okT 3 (readF 3 l) = true ∧ encC 3 (readF 3 l) = l then some (readF 3 l) else none:=by
 unfold decF0
 by_cases h : okT 3 (readF 3 l) = true ∧ encC 3 (readF 3 l) = l
 ·rw [if_pos h];have:=taken_put 3 _ (by decide) h.1;rw [h.2] at this;rw [this];exact if_pos h.1
 rw [if_neg h]
 cases e : takenF 4 l with
 | none=>rfl
 | some x=>
   show (if okT 3 x = true then some x else none) = none
   by_cases hx : okT 3 x = true
   rotate_left
   ·rw [if_neg hx]
   exfalso
   have hl2:=taken_tells 3 l x hl e;have:=read_put 3 x (by decide) hx;rw [← hl2] at this;rw [this] at h;exact h ⟨hx,hl2.symm⟩
end Go.Proofs.YtilckocpgififaaDoor.G
/- althingref7.read: bytes as a call, as the reference reads them (laid by mkrefread.py). -/
namespace Go.Proofs.YtilckocpgififaaDoor.G
open Go.RowKit Go.Shelf Go.Proofs.YtilckocpgififaaDoorW.PrintWords Go.Proofs.YtilckocpgififaaDoorW.PrintLast Go.Proofs.YtilckocpgififaaDoorW.PrintMore Go.Proofs.YtilckocpgififaaDoor.PNum
set_option linter.unusedVariables false
set_option linter.unusedSimpArgs false
theorem results_cellR {P : Program} {fn : Func} {t : Tmp} {ty : TypeId} (h : fn.results = #[.cell t ty]) (tmps : Array Value) {w : World} {g : Nat} {v : Value} (hp : tmps.getD t undef = .pointer (some ⟨g,0,none⟩)) (hv : (loadVar ty ⟨g,0,none⟩).run P w = .ok v w) : (results fn tmps).run P w = .ok v w:=by
 have hp' : tmps[t]?.getD undef = .pointer (some ⟨g,0,none⟩):=by rw [← hp];simp
 simp [results,h,hp',asAddr,hv]
def refread_r9.T : Bool × List (List Nat × List Nat):=(true,[([],[]),([0],[0]),([],[]),([2],[2]),([],[]),([4],[4]),([3,5,3],[3,5]),([6],[6]),([1,7,6],[1,7]),([0,1,2,3,4,5,6,7,8],[]),([9,8,8,0,1,2,3,4,5,6,7,8],[8,9])])
def refread_r9.B : List Nat:=[0,1,0,4,0,16,60,124,255,511,1023]
theorem refread_r9.tab : rtab .any (opsOf Tryd.f24 9) = refread_r9.T:=by kernel_rfl
theorem refread_r9.bits : waitsOk refread_r9.T.2 refread_r9.B = true:=by kernel_rfl
def refread_r9.l0 : Array Bool:=bl 11 1
def refread_r9.l1 : Array Bool:=bl 11 3
def refread_r9.l2 : Array Bool:=bl 11 7
def refread_r9.l3 : Array Bool:=bl 11 23
def refread_r9.l4 : Array Bool:=bl 11 55
def refread_r9.l5 : Array Bool:=bl 11 63
def refread_r9.l6 : Array Bool:=bl 11 127
def refread_r9.l7 : Array Bool:=bl 11 255
def refread_r9.l8 : Array Bool:=bl 11 511
def refread_r9.l9 : Array Bool:=bl 11 1023
def refread_r9.l10 : Array Bool:=bl 11 2047
theorem kidsR_end (dec : List Int → S24) (m : Nat) (l : List Int) (e : Bool) (acc : List S24) (h : m = 0 ∨ e = true) : kidsR dec m l e acc = acc:=by
 cases m with
 | zero=>rfl
 | succ m=>rcases h with h | h
           ·cases h
           ·rw [kidsR,if_pos h]
theorem built_one (v : Int) : Tryd.prog.built 24 [(0,.int .i64 v)] = some #[.int .i64 v,.int .i64 0,.int .i64 0,.slice none 0 0]:=by kernel_rfl
theorem build_run1' {P : Program} {o : Oper} {a : Act} {W : World} {t : TypeId} {i : Nat} {y : Operand} {x v : Value} (ho : o.op = .build t #[(i,y)]) (hy : a.eval y = x) (hr : (Instr.build t #[(i,x)]).run P W = .ok v W) : (execOp a.eval o).run P W = .ok (.value v) W:=by
 unfold execOp
 simp only [ho,List.map_toArray,List.map_nil,List.map_cons,hy,Sem.run_bind,hr,Result.andThen_ok,Sem.run_pure]
def ReadsAt (f : Nat) (d : Int) : Prop:=∀ (A : Option Addr) (c : Nat) (l : List Int) (w : World),Kd.C (Kd.int .u8) w A l.length l → l.length ≤ c → IsBytes l → l.length < 140737488355328 →
 Calls Tryd.prog 24 #[.slice A l.length c,.int .i64 d] w fun e w'=>
  (∃ L : List Value,e = .returned (.agg L.toArray) ∧ L.length = 4 ∧ (∀ v ∈ L,v.oneCell' = true) ∧ k24.M w' w.heap.size (fun _=>True) (readF f l) L) ∧ Below w.heap.size w w'
set_option maxRecDepth 100000 in
set_option maxHeartbeats 32000000 in
theorem read_step (f : Nat) (d : Int) (hd : d + f = 3) (hd0 : 0 ≤ d) (ih : ∀ g,f = g + 1 → ReadsAt g (d + 1)) : ReadsAt f d:=by
 intro A c l w hC hc hby hsh;obtain ⟨B,hBe⟩ : ∃ B,B = w.heap.size:=⟨_,rfl⟩;rw [← hBe];obtain ⟨Z,hZ⟩ : ∃ Z,Z = zeroC:=⟨_,rfl⟩
 have hZl : Z.length = 4:=by rw [hZ];rfl
 have hZo : ∀ v ∈ Z,v.oneCell' = true:=by rw [hZ];intro v hv;simp [zeroC] at hv;rcases hv with rfl | rfl | rfl | rfl <;> rfl
 have HAL : Aside0 (∀ w,(zeroValue 24).run Tryd.prog w = .ok (.agg Z.toArray) w):=⟨fun w=>by rw [hZ];exact zero_runC w⟩;have HZl:=am hZl;have HZo:=am hZo;have HZ:=am hZ;have HC:=am hC;have Hc:=am hc;have Hby:=am hby;have Hsh:=am hsh;have HBe:=am hBe;have HIH:=am ih;have Hfar : Aside0 (∀ ad,A = some ad → 0 < l.length → ad.block < B):=⟨fun ad e hn=>by rw [hBe];subst e;exact Kd.C_lt hC hn (by decide)⟩;clear hZ hZl hZo hC hc hby hsh hBe ih;go_enter Tryd.func24,Tryd.ntmps24
 go_upto_region 1 with ((with_reducible refine gate_dst (N:=4) rfl ?_);refine box_event ?hg (N:=4) ?hd (cs:=Z.toArray) (t:=24) ?hr ?_;(case hd=>rfl);(case hg=>rfl);(case hr=>first | (simp [execOp,Instr.alloc,HAL.out,newVar,newRow,go_sem];done) | (simp [execOp,Instr.alloc,HAL.out,newVar,newRow,go_sem];rfl) | (go_simp;done) | (go_simp;rfl));intro g4 hg_ w1 hbox_ hb_;have h4_ : Lies w1 g4 Z:=Lies.box hbox_;have G4:=am hg_;have L41:=am h4_;have B1:=am hb_;clear h4_;clear hg_ hbox_ hb_)
 go_upto_region 2 with ((with_reducible refine gate_dst (N:=11) rfl ?_);refine box_event ?hg (N:=11) ?hd (cs:=#[.slice A l.length c,.bool false]) (t:=81) ?hr ?_;(case hd=>rfl);(case hg=>rfl);(case hr=>first | (simp [execOp,Instr.alloc,HAL.out,newVar,newRow,go_sem];done) | (simp [execOp,Instr.alloc,HAL.out,newVar,newRow,go_sem];rfl) | (go_simp;done) | (go_simp;rfl));intro R hg_ w2 hbox_ hb_;have hr_ : Lies w2 R [.slice A l.length c,.bool false]:=Lies.box hbox_;have GR:=am hg_;have LR2:=am hr_;have B2:=am hb_;clear hr_;clear hg_ hbox_ hb_)
 have hlt2 : B ≤ g4 ∧ g4 < R ∧ R < w2.heap.size ∧ w1.heap.size ≤ w2.heap.size ∧ g4 < w1.heap.size ∧ B ≤ w1.heap.size:=by
  have e4:=G4.out;have eR:=GR.out;have eB:=HBe.out;have h1:=L41.out.lt (by rw [HZl.out];decide);have h2:=LR2.out.lt (by simp);have h3:=B1.out.size;have h4:=B2.out.size;exact ⟨by omega,by omega,by omega,by omega,by omega,by omega⟩
 have b2_ : Below B w w2:=by have eB:=HBe.out;rw [eB];exact below_step B1.out B2.out
 have hr2_ : RdAt B w2 R A c l false:=⟨LR2.out,Hc.out,Kd.C_below HC.out (by rw [← HBe.out];exact b2_),Hfar.out,Hby.out,Hsh.out,by omega⟩;have HR0z:=am hr2_;have L42:=am (L41.out.below B2.out (by omega));have B02:=am b2_;have Hlt2:=am hlt2;clear b2_ hr2_ hlt2;obtain ⟨v1,hv1⟩ : ∃ v,v = (rn1 l).1:=⟨_,rfl⟩;have hn1:=rnum_calls B R A c l false w2 HR0z.out;rw [show rnum l false = rn1 l from rfl,← hv1] at hn1;have HV1:=am hv1;have HN1:=am hn1;clear hv1 hn1;obtain ⟨LC1,hLC1⟩ : ∃ LC : List Value,LC = [.int .i64 v1,.int .i64 0,.int .i64 0,.slice none 0 0]:=⟨_,rfl⟩;have HLC1:=am hLC1;have HLC1l : Aside0 (LC1.length = 4):=⟨by rw [hLC1];rfl⟩;have HLC1o : Aside0 (∀ v ∈ LC1,v.oneCell' = true):=⟨by rw [hLC1];intro v hv;simp at hv;rcases hv with rfl | rfl | rfl | rfl <;> rfl⟩;have HB1 : Aside0 (∀ W,(Instr.build 24 #[(0,Value.int .i64 v1)]).run Tryd.prog W = .ok (.agg LC1.toArray) W):=⟨fun W=>by rw [hLC1];exact run_build W _ _ _ (built_one v1)⟩;clear hLC1
 go_upto_region 3 with (first
  | (go_at_call 43;go_loud ((with_reducible refine HN1.out.mono ?_);rintro e w3 ⟨rfl,⟨A1,c1,hr_⟩,hk_⟩;have HR1:=am hr_;have HK1:=am hk_;clear hr_ hk_))
  | ((with_reducible refine gate_dst (N:=14) rfl ?_);refine Kd.event_run (v:= .agg LC1.toArray) (w1:=w3) rfl (build_run1' rfl rfl (HB1.out w3)) ?_)
  | ((with_reducible refine gate_dst (N:=6) rfl ?_);refine box_event ?hg (N:=6) ?hd (cs:=Z.toArray) (t:=24) ?hr ?_;(case hd=>rfl);(case hg=>rfl);(case hr=>first | (simp [execOp,Instr.alloc,HAL.out,newVar,newRow,go_sem];done) | (simp [execOp,Instr.alloc,HAL.out,newVar,newRow,go_sem];rfl) | (go_simp;done) | (go_simp;rfl));intro gc hg_ w4 hbox_ hb_;have hr_ : Lies w4 gc Z:=Lies.box hbox_;have GC:=am hg_;have LC4:=am hr_;have B4:=am hb_;clear hr_;clear hg_ hbox_ hb_)
  | ((with_reducible refine gate_store (t:=24) (p:=6) rfl ?_);refine wpList_store_mid rfl 24 _ _ rfl gc 0 LC1.toArray rfl rfl (by rw [List.size_toArray,HLC1l.out,← HZl.out];exact LC4.out.there) (by rw [List.size_toArray,HLC1l.out];exact info_call) (all_oneCell_toArray HLC1o.out) ?_))
 have z3:=HK1.out.size;have z4:=B4.out.size;have eC:=GC.out;have gcl : gc < w4.heap.size:=LC4.out.lt (by rw [HZl.out];decide);have hl2:=Hlt2.out
 have n0_ : Lies (w4.setCells gc 0 LC1) gc LC1:=by have:=LC4.out.splice 0 LC1 (by rw [HLC1l.out,HZl.out];decide);rwa [List.take_zero,List.nil_append,List.drop_of_length_le (by rw [HLC1l.out,HZl.out];decide),List.append_nil] at this
 have k0_ : Kept (fun k=>k = gc) w4 (w4.setCells gc 0 LC1):=kept_setCells gc 0 LC1 w4;have r0_:=(HR1.out.below B4.out).kept k0_ (fun k hk=>by have hk' : k = gc:=hk;omega) (by show ¬ R = gc;omega);have m4_:=((L42.out.kept HK1.out (by rw [HZl.out];decide) (by show ¬ g4 = R;omega)).below B4.out (by omega)).kept k0_ (by rw [HZl.out];decide) (by show ¬ g4 = gc;omega);have b0_ : Below B w (w4.setCells gc 0 LC1):=below_setCells' gc (by omega) LC1 0 w4 ((HK1.out.to_below B02.out (by omega) (fun k hk=>by have hk' : k = R:=hk;omega)).trans (B4.out.mono (by omega)));have z0_:=k0_.size;generalize World.setCells _ _ _ _ = w5 at n0_ k0_ r0_ m4_ b0_ z0_ ⊢;have HR1z:=am r0_;have LC5:=am n0_;have L45:=am m4_;have B05:=am b0_;have Hlt : Aside0 (B ≤ g4 ∧ g4 < R ∧ R < gc ∧ gc < w4.heap.size ∧ w4.heap.size ≤ w5.heap.size ∧ B ≤ w4.heap.size):=⟨by omega,by omega,by omega,by omega,by omega,by omega⟩;clear n0_ k0_ r0_ m4_ b0_ z0_ z3 z4 eC gcl hl2;have HneC : Aside0 (¬ gc = R):=⟨by have:=Hlt.out;omega⟩;obtain ⟨v2,hv2⟩ : ∃ v,v = (rn2 l).1:=⟨_,rfl⟩;have hn2:=rnum_calls B R A1 c1 (rn1 l).2.1 (rn1 l).2.2 w5 HR1z.out;rw [show rnum (rn1 l).2.1 (rn1 l).2.2 = rn2 l from rfl,← hv2] at hn2;have HV2:=am hv2;have HN2:=am hn2;clear hv2 hn2
 go_upto_region 4 with (go_at_call 43;go_loud ((with_reducible refine HN2.out.mono ?_);rintro e w6 ⟨rfl,⟨A2,c2,hr_⟩,hk_⟩;have HR2:=am hr_;have HK2:=am hk_;clear hr_ hk_;have nC_:=LC5.out.kept HK2.out (by simp [HLC1l.out]) HneC.out;have uC:=nC_.cell (i:=1) (v:= .int .i64 0) (by rw [HLC1.out];rfl);have fC:=nC_.frozen 1 (by simp [HLC1l.out]);clear nC_))
 have hl2:=Hlt.out;have z3:=HK2.out.size
 have zz_ : w4.heap.size ≤ w6.heap.size:=by omega
 have n_:=(LC5.out.kept HK2.out (by simp [HLC1l.out]) (by show ¬ gc = R;omega)).set 1 (by simp [HLC1l.out]) (.int .i64 v2);have m4_:=(L45.out.kept HK2.out (by rw [HZl.out];decide) (by show ¬ g4 = R;omega)).set_far (b:=gc) (by omega) 1 (.int .i64 v2);have r_:=HR2.out.set_else (g:=gc) (by omega) (by omega) 1 (.int .i64 v2);have b_:=(HK2.out.to_below B05.out (by omega) (fun k hk=>by have hk' : k = R:=hk;omega)).setCell (p:=⟨gc,1,none⟩) (by show B ≤ gc;omega) (.int .i64 v2)
 have z_ : (World.setCell w6 ⟨gc,1,none⟩ (.int .i64 v2)).heap.size = w6.heap.size:=by rw [World.size_setCell]
 clear uC fC;generalize World.setCell _ _ _ = w7a at n_ m4_ r_ b_ z_ ⊢;have LC7a:=am n_;have L47a:=am m4_;have HR2z:=am r_;have B07a:=am b_;have SZ7 : Aside0 (w4.heap.size ≤ w7a.heap.size):=⟨by omega⟩;clear n_ m4_ r_ b_ z_ zz_ z3 hl2;obtain ⟨v3,hv3⟩ : ∃ v,v = (rn3 l).1:=⟨_,rfl⟩;have hn3:=rnum_calls B R A2 c2 (rn2 l).2.1 (rn2 l).2.2 w7a HR2z.out;rw [show rnum (rn2 l).2.1 (rn2 l).2.2 = rn3 l from rfl,← hv3] at hn3;have HV3:=am hv3;have HN3:=am hn3;clear hv3 hn3
 go_upto_region 5 with (go_at_call 43;go_loud ((with_reducible refine HN3.out.mono ?_);rintro e w8 ⟨rfl,⟨A3,c3,hr_⟩,hk_⟩;have HR3:=am hr_;have HK3:=am hk_;clear hr_ hk_;have nC_:=LC7a.out.kept HK3.out (by simp [HLC1l.out]) HneC.out;have uC:=nC_.cell (i:=2) (v:= .int .i64 0) (by rw [HLC1.out];rfl);have fC:=nC_.frozen 2 (by simp [HLC1l.out]);clear nC_))
 have hl2:=Hlt.out;have z3:=HK3.out.size
 have zz_ : w4.heap.size ≤ w8.heap.size:=by have:=SZ7.out;omega
 have n_:=(LC7a.out.kept HK3.out (by simp [HLC1l.out]) (by show ¬ gc = R;omega)).set 2 (by simp [HLC1l.out]) (.int .i64 v3);have m4_:=(L47a.out.kept HK3.out (by rw [HZl.out];decide) (by show ¬ g4 = R;omega)).set_far (b:=gc) (by omega) 2 (.int .i64 v3);have r_:=HR3.out.set_else (g:=gc) (by omega) (by omega) 2 (.int .i64 v3);have b_:=(HK3.out.to_below B07a.out (by have:=SZ7.out;omega) (fun k hk=>by have hk' : k = R:=hk;omega)).setCell (p:=⟨gc,2,none⟩) (by show B ≤ gc;omega) (.int .i64 v3)
 have z_ : (World.setCell w8 ⟨gc,2,none⟩ (.int .i64 v3)).heap.size = w8.heap.size:=by rw [World.size_setCell]
 clear uC fC;generalize World.setCell _ _ _ = w9a at n_ m4_ r_ b_ z_ ⊢;have LC9a:=am n_;have L49a:=am m4_;have HR3z:=am r_;have B09a:=am b_;have SZ9 : Aside0 (w4.heap.size ≤ w9a.heap.size):=⟨by omega⟩;clear n_ m4_ r_ b_ z_ zz_ z3 hl2;obtain ⟨n,hn⟩ : ∃ v,v = (rn4 l).1:=⟨_,rfl⟩;have hn4:=rnum_calls B R A3 c3 (rn3 l).2.1 (rn3 l).2.2 w9a HR3z.out;rw [show rnum (rn3 l).2.1 (rn3 l).2.2 = rn4 l from rfl,← hn] at hn4;have Hn:=am hn;have HN4:=am hn4;have Hn0 : Aside0 (0 ≤ n ∧ n ≤ 4611686018427387904):=⟨by rw [hn];exact rnum_range (rnum_bytes (rnum_bytes (rnum_bytes Hby.out _) _) _) _⟩;clear hn hn4
 go_upto_region 6 with (go_at_call 43;go_loud ((with_reducible refine HN4.out.mono ?_);rintro e w10a ⟨rfl,⟨A4,c4,hr_⟩,hk_⟩;have HR4:=am hr_;have HK4:=am hk_;clear hr_ hk_))
 obtain ⟨M,hM⟩ : ∃ M : Nat,M = if d < 3 then min n.toNat 4 else 0:=⟨_,rfl⟩
 obtain ⟨dec,hdec⟩ : ∃ dec : List Int → S24,dec = match f with | 0=>(fun _=>z24) | g + 1=>readF g:=⟨_,rfl⟩
 have hfin : readF f l = ⟨v1,v2,v3,kidsR dec M (rn4 l).2.1 (rn4 l).2.2 []⟩:=by
  rw [hM,hdec,Hn.out,HV1.out,HV2.out,HV3.out]
  cases f with
  | zero=>rw [if_neg (by omega),readF,kidsR]
  | succ g=>rw [if_pos (by omega),readF]
 have hih : d < 3 → (∀ (A : Option Addr) (c : Nat) (l : List Int) (w : World),Kd.C (Kd.int .u8) w A l.length l → l.length ≤ c → IsBytes l → l.length < 140737488355328 →
  Calls Tryd.prog 24 #[.slice A l.length c,.int .i64 (wrap64 (d + 1))] w fun e w'=>
  (∃ L : List Value,e = .returned (.agg L.toArray) ∧ L.length = 4 ∧ (∀ v ∈ L,v.oneCell' = true) ∧ k24.M w' w.heap.size (fun _=>True) (dec l) L) ∧ Below w.heap.size w w'):=by
  intro h3
  cases f with
  | zero=>omega
  | succ g=>
    have h:=HIH.out g rfl
    have dw : wrap64 (d + 1) = d + 1:=by unfold wrap64;omega
    rw [dw,hdec];exact h
 have HFIN:=am hfin;have HI:=am hih;have HMd : Aside0 (M = if d < 3 then min n.toNat 4 else 0):=⟨hM⟩;obtain ⟨okk,hokk⟩ : ∃ okk : Nat → Prop,okk = fun k=>k ≠ R ∧ k ≠ gc ∧ k ≠ g4:=⟨_,rfl⟩;have Hokk:=am hokk
 have HRe : Aside0 (RdAt B w10a R A4 c4 (rn4 l).2.1 (rn4 l).2.2 ∧ Lies w10a gc [.int .i64 v1,.int .i64 v2,.int .i64 v3,.slice none 0 0] ∧ Lies w10a g4 Z ∧ Below B w w10a ∧ w4.heap.size ≤ w10a.heap.size):=⟨HR4.out,by
  have:=LC9a.out.kept HK4.out (by simp [HLC1l.out]) (by show ¬ gc = R;exact HneC.out);rw [HLC1.out] at this
  exact this,L49a.out.kept HK4.out (by rw [HZl.out];decide) (by have:=Hlt.out;show ¬ g4 = R;omega),HK4.out.to_below B09a.out (by have:=SZ9.out;have:=Hlt.out;omega) (fun k hk=>by have hk' : k = R:=hk;have:=Hlt.out;omega),Nat.le_trans SZ9.out HK4.out.size⟩
 clear hM hdec hfin hih hokk HIH
 go_wp2
 go_loopw [8] (fun i wr=>∃ x : Int,i = .int .i64 x ∧ (0 ≤ x ∧ x ≤ 4) ∧
  Aside0 (∃ A' c' l' e' ks v3',RdAt B wr R A' c' l' e' ∧ Lies wr gc [.int .i64 v1,.int .i64 v2,.int .i64 v3,v3'] ∧ Lies wr g4 Z ∧ k24.R 24 wr B okk v3' ks ∧ ks.length = x.toNat ∧
   kidsR dec (M - x.toNat) l' e' ks = kidsR dec M (rn4 l).2.1 (rn4 l).2.2 []) ∧ Aside0 (Below B w wr) ∧ Aside0 (w4.heap.size ≤ wr.heap.size))
  (fun i _=>4 - (intOf i).toNat)
 case atStart=>exact ⟨0,rfl,⟨by omega,by omega⟩,⟨A4,c4,_,_,[],.slice none 0 0,HRe.out.1,HRe.out.2.1,HRe.out.2.2.1,Kd.R_nil _ _ _ _ _,rfl,by rw [show (0 : Int).toNat = 0 from rfl,Nat.sub_zero]⟩,⟨HRe.out.2.2.2.1⟩,⟨HRe.out.2.2.2.2⟩⟩
 case round=>
 clear HRe;obtain ⟨x,rfl,⟨hx0,hx1⟩,HV,HG,HSZ⟩:=hrel;obtain ⟨A',c',l',e',ks,v3',hRE,hLE,h4E,hRK,hkl,hE⟩:=HV.out;obtain ⟨A3,cc3,hv3,hcc3,_⟩:=Kd.R_reads hRK;subst hv3;have HRE:=am hRE;have HLCE:=am hLE;have H4E:=am h4E;have HRK:=am hRK;have HKL:=am hkl;have Hcc3:=am hcc3;have HE:=am hE;have q1:=hRE.reader.cell (i:=1) (v:= .bool e') rfl;have hn0:=Hn0.out.1;clear hRE hLE h4E hRK hkl hE HV hcc3
 by_cases hgo : x < n ∧ e' = false ∧ x < 4 ∧ d < 3
 rotate_left
 ·have hex : M - x.toNat = 0 ∨ e' = true:=by
   have hMv:=HMd.out
   cases e' with
   | true=>exact .inr rfl
   | false=>
     left
     by_cases h3 : d < 3
     rotate_left
     ·rw [if_neg h3] at hMv;omega
     rw [if_pos h3] at hMv;have : ¬ (x < n ∧ x < 4):=fun h=>hgo ⟨h.1,rfl,h.2,h3⟩
     omega
  have hks : kidsR dec M (rn4 l).2.1 (rn4 l).2.2 [] = ks:=by rw [← HE.out];exact kidsR_end dec _ _ _ _ hex
  have hfin2 : readF f l = ⟨v1,v2,v3,ks⟩:=by rw [HFIN.out,hks]
  have HF2:=am hfin2;obtain ⟨LC,hLC⟩ : ∃ LC : List Value,LC = [.int .i64 v1,.int .i64 v2,.int .i64 v3,.slice A3 ks.length cc3]:=⟨_,rfl⟩;have HLCl : Aside0 (LC.length = 4):=⟨by rw [hLC];rfl⟩;have HLCo : Aside0 (∀ v ∈ LC,v.oneCell' = true):=⟨by rw [hLC];intro v hv;simp at hv;rcases hv with rfl | rfl | rfl | rfl <;> rfl⟩;have HLEe : Aside0 (Lies wr gc LC):=⟨by rw [hLC];exact HLCE.out⟩;have HLC:=am hLC;have hw : ∀ W,W = wr → True:=fun _ _=>trivial;clear hex hks hfin2 hLC hw
  have hcase : (decide (x < n) = false) ∨ (decide (x < n) = true ∧ e' = true) ∨ (decide (x < n) = true ∧ e' = false ∧ decide (x < 4) = false) ∨ (decide (x < n) = true ∧ e' = false ∧ decide (x < 4) = true ∧ decide (d < 3) = false):=by
   by_cases h1 : x < n
   rotate_left
   ·exact .inl (decide_eq_false h1)
   cases e' with
   | true=>exact .inr (.inl ⟨decide_eq_true h1,rfl⟩)
   | false=>
     by_cases h2 : x < 4
     rotate_left
     ·exact .inr (.inr (.inl ⟨decide_eq_true h1,rfl,decide_eq_false h2⟩))
     by_cases h3 : d < 3
     ·exact absurd ⟨h1,rfl,h2,h3⟩ hgo
     exact .inr (.inr (.inr ⟨decide_eq_true h1,rfl,decide_eq_true h2,decide_eq_false h3⟩))
  clear hgo
  rcases hcase with d1 | ⟨d1,rfl⟩ | ⟨d1,rfl,d2⟩ | ⟨d1,rfl,d2,d3⟩
  all_goals (
   go_wp2_with (first
    | ((with_reducible refine gate_dst (N:=53) rfl ?_);refine wpList_load_mid rfl 24 _ rfl gc 0 rfl LC _ HLEe.out.range Tryd.underlying24 rfl (by rw [HLCl.out];exact info_call) ?_)
    | ((with_reducible refine gate_store (t:=24) (p:=4) rfl ?_);refine wpList_store_mid rfl 24 _ _ rfl g4 0 LC.toArray rfl rfl (by rw [List.size_toArray,HLCl.out];exact H4E.out.part_there 0 4 (by rw [HZl.out];decide)) (by rw [List.size_toArray,HLCl.out];exact info_call) (all_oneCell_toArray HLCo.out) ?_))
   have BR:=World.rangeAt_setCells_same wr g4 0 LC (by rw [HLCl.out];exact H4E.out.part_there 0 4 (by rw [HZl.out];decide));have hres:=run_loadVar_mid (P:=Tryd.prog) (wr.setCells g4 0 LC) g4 0 24 LC _ BR Tryd.underlying24 rfl (by rw [HLCl.out];exact info_call);refine bodyPost_ret (results_cellR rfl _ rfl hres) rfl ?_;refine ⟨⟨LC,rfl,HLCl.out,HLCo.out,?_⟩,below_setCells' g4 (by have:=Hlt.out;omega) LC 0 wr HG.out⟩;have hk : k24.R 24 (wr.setCells g4 0 LC) B (fun _=>True) (.slice A3 ks.length cc3) ks:=Kd.R_mono (Kd.R_step HRK.out (fun k ho hl=>(kept_setCells g4 0 LC wr).block k hl (by show ¬ k = g4;rw [Hokk.out] at ho;exact ho.2.2))) (fun _ _=>trivial);rw [HF2.out,HLC.out];rw [HLC.out] at hk
   exact k24_mkM _ _ _ ⟨v1,v2,v3,ks⟩ hk)
 obtain ⟨h1,rfl,h2,h3⟩:=hgo;have d1 : decide (x < n) = true:=decide_eq_true h1;have d2 : decide (x < 4) = true:=decide_eq_true h2;have d3 : decide (d < 3) = true:=decide_eq_true h3
 have xw : wrap64 (x + 1) = x + 1:=by unfold wrap64;omega
 obtain ⟨p,hp⟩ : ∃ p,(rrow l' false).1 = p:=⟨_,rfl⟩;obtain ⟨l2,hl2⟩ : ∃ q,(rrow l' false).2.1 = q:=⟨_,rfl⟩;obtain ⟨e2,he2⟩ : ∃ q,(rrow l' false).2.2 = q:=⟨_,rfl⟩;obtain ⟨kx,hkx⟩ : ∃ r,dec p = r:=⟨_,rfl⟩;have hrow:=rrow_calls B R A' c' l' false wr.drew HRE.out.drew;rw [hp,hl2,he2] at hrow;have HROW:=am hrow;have hps:=rrow_bytes HRE.out.bytes false;rw [hp] at hps;have hsh':=HRE.out.short;have HPB : Aside0 (IsBytes p ∧ p.length < 140737488355328):=⟨hps.2.1,by omega⟩
 have hstep : kidsR dec (M - (x + 1).toNat) l2 e2 (ks ++ [kx]) = kidsR dec M (rn4 l).2.1 (rn4 l).2.2 []:=by
  rw [← HE.out];have hMv:=HMd.out;rw [if_pos h3] at hMv;rw [show M - x.toNat = (M - (x + 1).toNat) + 1 by omega,kidsR,if_neg (by decide),hp,hl2,he2,hkx]
 have HNX:=am hstep;have HKX:=am hkx;have HIW:=am (HI.out h3)
 have hBw : B ≤ wr.heap.size:=by have:=HG.out.size;have:=HBe.out;omega
 have HBw:=am hBw;have r3 : wr.drew.cell? ⟨gc,3,none⟩ = some (.slice A3 ks.length cc3):=HLCE.out.drew.cell (i:=3) rfl;have HKL4 : Aside0 (ks.length ≤ 4):=⟨by have:=HKL.out;omega⟩;have R3:=am r3;clear hrow hps hsh' hstep hkx hBw hp hl2 he2 r3
 go_upto_region 9 with (fail)
 clear q1;have r3:=R3.out;refine start_ (n:=11) (S:=fun w'=>w'.cell? ⟨gc,3,none⟩ = some (.slice A3 ks.length cc3)) (ds:=[10]) (bl 11 0) (by kernel_rfl) rfl rfl r3 (fun hHeld=>?_);refine with_tabW refread_r9.tab refread_r9.bits (fun HT_ HW_=>?_);refine p_ HT_ 0 (some 43) refread_r9.l0 ?_;refine tk HT_ HW_ hHeld 1 (some 44) refread_r9.l1 (hr:=by intro w' hs_;have s0:=hs_;go_simp;with_reducible rfl) (h:=?_);refine p_ HT_ 2 (some 45) refread_r9.l2 ?_;refine p_ HT_ 4 (some 47) refread_r9.l3 ?_;refine p_ HT_ 5 (some 48) refread_r9.l4 ?_;refine o_ HT_ 3 (some 46) refread_r9.l5 fun K hK=>?_;refine gs Tryd.func44 #[.pointer (some ⟨R,0,none⟩)] ?_;refine (HROW.out).mono ?_;rintro e w7 ⟨⟨A1,c1,rfl,hc1_,hC1_,hf1_⟩,⟨A2,c2,hr2_⟩,hk_⟩;refine ⟨_,rfl,?_⟩;have HC1:=am hc1_;have HCP:=am hC1_;have HR7:=am hr2_;have HK7:=am hk_;have LC7:=am (HLCE.out.drew.kept hk_ (by simp) HneC.out);clear hc1_ hC1_ hf1_ hr2_ hk_;refine hK.out _ _ (LC7.out.cell (i:=3) rfl) (fun hHeld=>?_);clear hK K;refine nm (some 46) ?_;refine o_ HT_ 6 (some 49) refread_r9.l6 fun K hK=>?_;refine gs Tryd.func24 #[.slice A1 p.length c1,.int .i64 (wrap64 (d + 1))] ?_;refine (HIW.out A1 c1 p w7 HCP.out HC1.out HPB.out.1 HPB.out.2).mono ?_;rintro e w9 ⟨⟨LK,rfl,hl_,ho_,hm_⟩,hb_⟩;refine ⟨_,rfl,?_⟩;rw [HKX.out] at hm_;obtain ⟨A6,c6,hL_,hc6_,hC6_⟩:=k24_open (k24.K_of_M hm_);subst hL_;have HMK:=am hm_;have B9:=am hb_;have LC9:=am (LC7.out.below hb_ (LC7.out.lt (by simp)));clear hl_ ho_ hm_ hb_ hc6_ hC6_;refine hK.out _ _ (LC9.out.cell (i:=3) rfl) (fun hHeld=>?_);clear hK K;refine nm (some 49) ?_;refine o_ HT_ 7 (some 50) refread_r9.l7 fun K hK=>?_;refine value_ (v:= .slice (some ⟨w9.heap.size,0,none⟩) 1 1) (w1:=w9.alloc (.cells [Value.int .i64 kx.f0,.int .i64 kx.f1,.int .i64 kx.f2,.slice A6 kx.f3.length c6].toArray 24)) (by rfl) rfl ?_ ?_
 ·go_simp
  try rfl
 refine hK.out _ _ ((LC9.out.below (below_alloc (Below.refl _ _) _) (LC9.out.lt (by simp))).cell (i:=3) rfl) (fun hHeld=>?_);clear hK K;refine nm (some 50) ?_
 have hap : k24.M w9 B (fun k=>w7.heap.size ≤ k ∧ k < w9.heap.size) kx [Value.int .i64 kx.f0,.int .i64 kx.f1,.int .i64 kx.f2,.slice A6 kx.f3.length c6] ∧
  (∀ k,(w7.heap.size ≤ k ∧ k < w9.heap.size) → okk k ∧ some k ≠ (Value.slice A3 ks.length cc3).ownBlock) ∧ (∀ k,w9.heap.size ≤ k → okk k) ∧ k24.R 24 w9 B okk (.slice A3 ks.length cc3) ks ∧ Below B w w9 ∧ B ≤ w9.heap.size:=by
  have z7:=HK7.out.size;have z9:=B9.out.size;have bw:=HBw.out;have hl:=Hlt.out;have sz:=HSZ.out;have z0 : wr.drew.heap.size = wr.heap.size:=rfl;have rk7 : k24.R 24 w7 B okk (.slice A3 ks.length cc3) ks:=Kd.R_step (Kd.R_step HRK.out (fun k _ _=>rfl)) (fun k ho hlt=>HK7.out.block k hlt (by rw [Hokk.out] at ho;exact ho.1));have own7 : ∀ k,(Value.slice A3 ks.length cc3).ownBlock = some k → k < w7.heap.size:=fun k hk=>(Kd.R_bound rk7).1 k hk |>.2.2.1;refine ⟨k24.M_lower (by omega) (k24.M_mono (fun k h=>⟨h.2.1,h.2.2.1⟩) (k24.M_bound HMK.out)),fun k hk=>⟨?_,fun e=>?_⟩,fun k hk=>?_,Kd.R_below rk7 B9.out,(HK7.out.to_below (below_drew HG.out) (by omega) (fun k hk=>by have hk' : k = R:=hk;omega)).trans (B9.out.mono (by omega)),by omega⟩
  ·rw [Hokk.out];exact ⟨by omega,by omega,by omega⟩
  ·have:=own7 k e.symm;omega
  ·rw [Hokk.out];exact ⟨by omega,by omega,by omega⟩
 have hno : ¬ some gc = (Value.slice A3 ks.length cc3).ownBlock:=fun e=>by
  have h1:=HRK.out.1 gc e.symm;rw [Hokk.out] at h1;exact h1.2.1 rfl
 have HAP:=am hap;have HneO : Aside0 (¬ some gc = (Value.slice A3 ks.length cc3).ownBlock):=⟨hno⟩;clear hap hno;refine o_ HT_ 8 (some 51) refread_r9.l8 fun K hK=>?_;refine Kd.R_append_step k24 (w0:=w) B (by rfl) (.tmp 44) (.tmp 50) 22 24 (.agg zeroC.toArray) 48 rfl Tryd.underlying22 info_callz rfl (by decide) (by decide) (.slice A3 ks.length cc3) ks kx [Value.int .i64 kx.f0,.int .i64 kx.f1,.int .i64 kx.f2,.slice A6 kx.f3.length c6] okk (fun k=>w7.heap.size ≤ k ∧ k < w9.heap.size) rfl rfl (HAP.out.1) (HAP.out.2.1) (HAP.out.2.2.1) (HAP.out.2.2.2.1) (HAP.out.2.2.2.2.1) HAP.out.2.2.2.2.2 (by have:=HKL4.out;omega) ?_;intro va w11 hR_ hb_ hg_ hat_;clear hat_;obtain ⟨bv,cap,hv_,hcap_⟩:=R_shape hR_ (by simp) (by decide);subst hv_;clear hcap_;rw [List.length_append,show ([kx] : List S24).length = 1 from rfl] at hR_ ⊢;have HR11:=am hR_;have HB11:=am hb_;have HG11:=am hg_;have LC11:=am (LC9.out.kept (Kept.of_grown hg_) (by simp) HneO.out);clear hR_ hb_ hg_;refine hK.out _ _ (LC11.out.cell (i:=3) rfl) (fun hHeld=>?_);clear hK K;refine nm (some 51) ?_;refine p_ HT_ 9 (some 52) refread_r9.l9 ?_;have q3:=LC11.out.frozen 3 (by simp);refine last_ (i:=10) (N:=none) refread_r9.l10 rfl rfl (one_of HT_.out (by kernel_rfl)) (by decide) (fun K hK=>?_);refine skip_ (w1:=w11.setCell ⟨gc,3,none⟩ (.slice (some ⟨bv,0,none⟩) (ks.length + 1) cap)) (by rfl) rfl ?_ ?_
 ·go_simp
 refine hK.out _ _ ?_;clear hK K;refine done_ (done_of HT_.out (by kernel_rfl)) ?_;clear HT_ HW_ q3;have hg11:=HG11.out;have hkg:=Kept.of_grown hg11;have hnb : ∀ k,some k = (Value.slice A3 ks.length cc3).ownBlock → okk k ∧ B ≤ k:=fun k e=>⟨HRK.out.1 k e.symm,Kd.R_base HRK.out k e.symm⟩;have f1 : RdAt B w11 R A2 c2 l2 e2:=(HR7.out.below B9.out).kept hkg (fun k e=>(hnb k e).2) (fun e=>by have:=(hnb R e).1;rw [Hokk.out] at this;exact this.1 rfl);have f2 : Lies w11 g4 Z:=((((H4E.out.drew).kept HK7.out (by rw [HZl.out];decide) (by have:=Hlt.out;show ¬ g4 = R;omega)).below B9.out (by have:=HK7.out.size;have:=Hlt.out;have:=HSZ.out;have z0 : wr.drew.heap.size = wr.heap.size:=rfl;omega))).kept hkg (by rw [HZl.out];decide) (fun e=>by have:=(hnb g4 e).1;rw [Hokk.out] at this;exact this.2.2 rfl);have f3:=f1.set_else (g:=gc) (by have:=Hlt.out;omega) (by have:=Hlt.out;omega) 3 (.slice (some ⟨bv,0,none⟩) (ks.length + 1) cap);have f4:=f2.set_far (b:=gc) (by have:=Hlt.out;omega) 3 (.slice (some ⟨bv,0,none⟩) (ks.length + 1) cap);have f5:=LC11.out.set 3 (by simp) (.slice (some ⟨bv,0,none⟩) (ks.length + 1) cap);have f6 : k24.R 24 (w11.setCell ⟨gc,3,none⟩ (.slice (some ⟨bv,0,none⟩) (ks.length + 1) cap)) B okk (.slice (some ⟨bv,0,none⟩) (ks.length + 1) cap) (ks ++ [kx]):=Kd.R_far HR11.out (p:=⟨gc,3,none⟩) (fun k h=>by rw [Hokk.out] at h;exact h.2.1) _;have f7:=HB11.out.setCell (p:=⟨gc,3,none⟩) (by show B ≤ gc;have:=Hlt.out;omega) (.slice (some ⟨bv,0,none⟩) (ks.length + 1) cap)
 have f8 : w4.heap.size ≤ (w11.setCell ⟨gc,3,none⟩ (.slice (some ⟨bv,0,none⟩) (ks.length + 1) cap)).heap.size:=by rw [World.size_setCell];exact Nat.le_trans (Nat.le_trans HSZ.out (Nat.le_trans HK7.out.size B9.out.size)) hg11.size
 generalize World.setCell _ _ _ = wz at f3 f4 f5 f6 f7 f8 ⊢;have F3:=am f3;have F4:=am f4;have F5:=am f5;have F6:=am f6;have F7:=am f7;have F8:=am f8;clear f1 f2 f3 f4 f5 f6 f7 f8 hkg hg11 hnb
 go_wp2
 exact ⟨⟨x + 1,by first | rfl | (rw [xw]) | (simp [xw]),⟨by omega,by omega⟩,⟨A2,c2,l2,e2,ks ++ [kx],.slice (some ⟨bv,0,none⟩) (ks.length + 1) cap,F3.out,F5.out,F4.out,F6.out,by rw [List.length_append];have:=HKL.out;have e1 : ([kx] : List S24).length = 1:=rfl;omega,HNX.out⟩,F7,F8⟩,by simp [intOf];omega⟩
theorem reads_at : ∀ (f : Nat) (d : Int),d + f = 3 → 0 ≤ d → ReadsAt f d
 | 0,d,h,h0=>read_step 0 d h h0 (fun g e=>by cases e)
 | f + 1,d,h,h0=>read_step (f + 1) d h h0 (fun g e=>by cases e;exact reads_at f (d + 1) (by omega) (by omega))
end Go.Proofs.YtilckocpgififaaDoor.G
/- append(s, make([]byte, n)...): n zeros behind a row of one's own; slices.Grow of nil; slices.Concat. -/
namespace Go.Proofs.YtilckocpgififaaDoor.G
open Go.RowKit Go.Proofs.YtilckocpgififaaDoorW.PrintWords Go.Proofs.YtilckocpgififaaDoorW.PrintLast Go.Proofs.YtilckocpgififaaDoorW.PrintMore
set_option linter.unusedVariables false
set_option linter.unusedSimpArgs false
section
variable {P : Program}
theorem zeroCells_one (z : Value) (n : Nat) : Builtin.zeroCells #[z] n = (List.replicate n z).toArray:=by
 apply Array.ext
 ·simp [size_zeroCells]
 ·intro i h1 h2
  simp [Builtin.zeroCells,Nat.mod_one]
theorem run_append_zeros_own (w : World) (base : Nat) (t ti ty e : TypeId) (i : TypeInfo) (ht : P.underlying t = some (.slice e)) (hti : P.underlying ti = some (.int .i64)) (hi : P.info? e = some i) (hz : i.zero = some (.int .u8 0))
 (hsize : i.size = 1) (hby : i.bytes = 1) (v : Value) (n : Nat) (xs : List Value) (hown : w.ownsRow base e 1 v n xs) (m : Nat) (hm : 0 < m) (hnm : n + m ≤ 1000000000) (hbase : base ≤ w.heap.size) :
 ∃ v' w',(Builtin.append_ #[t,ti] ty #[v,.int .i64 (m : Int)]).run P w = .ok v' w' ∧ w'.ownsRow base e 1 v' (n + m) (xs ++ List.replicate m (.int .u8 0)) ∧ w.grownBy w' v.ownBlock ∧
   (v'.ownBlock = v.ownBlock ∨ v'.ownBlock = some w.heap.size):=by
 have hw : IntKind.i64.wrap (m : Int) = (m : Int):=IntWalk.i64_in _ (by omega)
 have hlen : (xs ++ List.replicate m (Value.int .u8 0)).length = (n + m) * 1:=by rw [List.length_append,hown.1,List.length_replicate];omega
 have h0 : ¬ (m : Int) < 0:=by omega
 have h48 : ¬ (281474976710656 < (m : Int)):=by omega
 have grown : ∀ (old : Nat),old < n + m → ∀ (row : Option Nat),
  (w.drew.alloc (.cells (xs.toArray ++ (List.replicate m (Value.int .u8 0)).toArray ++ Builtin.zeroCells #[.int .u8 0] (grownCap w (n + m) old e - (n + m))) e)).ownsRow base e 1
   (.slice (some ⟨w.heap.size,0,none⟩) (n + m) (grownCap w (n + m) old e)) (n + m) (xs ++ List.replicate m (.int .u8 0)) ∧
  w.grownBy (w.drew.alloc (.cells (xs.toArray ++ (List.replicate m (Value.int .u8 0)).toArray ++ Builtin.zeroCells #[.int .u8 0] (grownCap w (n + m) old e - (n + m))) e)) row:=by
  intro old ho row;have hge:=grownCap_ge w (n + m) old e;have hcm : grownCap w (n + m) old e ≤ maxLen:=grownCap_le_maxLen w (n + m) old e (by simp only [maxLen];omega);refine ⟨⟨hlen,.inr ⟨w.heap.size,_,_,rfl,hbase,heap_alloc_new w.drew _,hge,hcm,?_,?_⟩⟩,⟨rfl,rfl,rfl,by simp,fun k hk _=>Below.heap_alloc w.drew _ k hk⟩⟩
  ·simp only [Array.size_append,List.size_toArray,size_zeroCells,hown.1,List.length_replicate]
   simp
   omega
  ·simp only [Array.toList_append,List.append_assoc];rw [← List.append_assoc,← hlen];exact List.take_left
 rcases hown.2 with ⟨rfl,rfl⟩ | ⟨g,cap,cur,rfl,hbg,hg,hnc,hcm,hcs,htake⟩
 ·have hx : xs = []:=List.eq_nil_of_length_eq_zero (by simpa using hown.1);subst hx;have hgr:=grown 0 (by omega) (Value.ownBlock (.slice none 0 0));simp only [Nat.zero_add,List.nil_append,Array.empty_append] at hgr ⊢;refine ⟨_,_,?_,hgr.1,hgr.2,Or.inr rfl⟩
  have h63' : ¬ (9223372036854775807 < (m : Int)):=by omega
  have hfit : ¬ (281474976710656 < Builtin.nextslicecap m 0):=by rw [nextslicecap_zero hm];omega
  have hne : m ≠ 0:=by omega
  simp [Builtin.append_,run_underlying ht,run_underlying hti,sizeOf,typeInfo,zeroValue,hi,hz,hsize,hby,asInt,asIntOf,hw,h48,h0,hne,h63',hfit,Question.forced,newRow,grownCap,run_firstCells_none,zeroCells_one]
  rw [show (Value.int .u8 0).cells = #[Value.int .u8 0] from rfl,zeroCells_one,zeroCells_one]
  congr 2
  simp
 ·by_cases hroom : n + m ≤ cap
  ·have hfit : n + (List.replicate m (Value.int .u8 0)).length ≤ cur.size:=by rw [List.length_replicate,hcs];omega
   have hst:=run_storeCells_at P g n e (List.replicate m (Value.int .u8 0)) 0 cur w hg (by simpa using hfit) (fun v hv=>by rw [List.eq_of_mem_replicate hv];rfl);simp only [Nat.add_zero] at hst
   have hne : m ≠ 0:=by omega
   have hr : (Builtin.append_ #[t,ti] ty #[.slice (some ⟨g,0,none⟩) n cap,.int .i64 (m : Int)]).run P w = .ok (.slice (some ⟨g,0,none⟩) (n + m) cap) (w.setRow g (cur.toList.take n ++ List.replicate m (Value.int .u8 0) ++ cur.toList.drop (n + (List.replicate m (Value.int .u8 0)).length)).toArray):=by
    simp [Builtin.append_,run_underlying ht,run_underlying hti,sizeOf,typeInfo,zeroValue,hi,hz,hsize,hby,asInt,asIntOf,hw,h48,h0,hne,hroom,Addr.add_lit,zeroCells_one]
    rw [show (Value.int .u8 0).cells = #[Value.int .u8 0] from rfl,zeroCells_one,List.toList_toArray,hst]
    simp [List.append_assoc]
   refine ⟨_,_,hr,⟨hlen,.inr ⟨g,cap,_,rfl,hbg,setRow_heap w g cur _ e _ hg,hroom,hcm,?_,?_⟩⟩,⟨rfl,rfl,rfl,by simp,fun k _ hk=>setRow_other w g k _ (fun e=>hk (by simp [Value.ownBlock,e]))⟩,Or.inl rfl⟩
   ·simp only [List.size_toArray,List.length_append,List.length_take,List.length_drop,Array.length_toList,List.length_replicate] at *
    omega
   ·rw [Nat.mul_one] at htake;rw [htake,← hlen];exact List.take_left
  ·have holds : ∀ j u,xs[j]? = some u → w.cell? ((⟨g,0,none⟩ : Addr).add j) = some u:=hown.cells (g:=g) rfl;have hgr:=grown cap (by omega) (Value.ownBlock (.slice (some ⟨g,0,none⟩) n cap));refine ⟨_,_,?_,hgr.1,hgr.2,Or.inr rfl⟩
   have hne : m ≠ 0:=by omega
   have h63' : ¬ (9223372036854775807 < ((n : Int) + (m : Int))):=by omega
   have hfit : ¬ (281474976710656 < Builtin.nextslicecap (n + m) cap):=by
    have:=growslice_fits (need:=n + m) (old:=cap) (bytes:=1) (by omega) (by omega)
    omega
   have hfo:=run_firstCells_some (P:=P) w.drew 1 n ⟨g,0,none⟩ n cap xs hown.1 (by simpa using holds)
   simp [Builtin.append_,run_underlying ht,run_underlying hti,sizeOf,typeInfo,zeroValue,hi,hz,hsize,hby,asInt,asIntOf,hw,h48,h0,hne,hroom,h63',hfit,Question.forced,newRow,grownCap,hfo]
   rw [show (Value.int .u8 0).cells = #[Value.int .u8 0] from rfl,zeroCells_one,zeroCells_one]
   simp
theorem zeros_event {ops : Array Oper} {rest : List Oper} {o : Oper} {a : Act} {Q : Exit → Act → World → Prop} {w0 W : World} (base : Nat) (hgd : o.guard = none) (s x : Operand) (t ti e : TypeId)
 (ho : o.op = .call { callee:= .builtin .append,args:=#[s,x],argTypes:=#[t,ti] }) (ht : P.underlying t = some (.slice e)) (hti : P.underlying ti = some (.int .i64))
 (hinfo : (P.info? e).map (fun i=>(i.zero,i.size,i.bytes)) = some (some (.int .u8 0),1,1)) (v : Value) (xs : List Int) (m : Nat) (mi : Int) (hmi : mi = (m : Int)) (hm : 0 < m) (hs : a.eval s = v) (hx : a.eval x = .int .i64 mi)
 (HO : Kd.R (Kd.int .u8) e W base (fun _=>True) v xs) (HB : Below base w0 W) (hbase : base ≤ W.heap.size) (hl : xs.length + m ≤ 1000000000)
 (h : ∀ v1 w1,Kd.R (Kd.int .u8) e w1 base (fun _=>True) v1 (xs ++ List.replicate m 0) → Below base w0 w1 → wpList P ops Q rest (a.put o.dst v1) w1) : wpList P ops Q (o :: rest) a W:=by
 subst hmi;obtain ⟨i,hi,hzz⟩:=Option.map_eq_some_iff.1 hinfo;simp only [Prod.mk.injEq] at hzz;obtain ⟨hz,hsz,hby⟩:=hzz;have hown:=Kd.own_of_R (enc:=Value.int .u8) (h1:=fun _=>rfl) HO;obtain ⟨v',w',hr,hown',hg,_⟩:=run_append_zeros_own (P:=P) W base t ti o.type e i ht hti hi hz hsz hby v xs.length _ hown m hm hl hbase;refine wpList_plain hgd fun K hK=>?_
 unfold Oper.wp execOp
 simp only [ho,resolve,invoke,builtin,Sem.run_bind,Sem.run_pure,Result.andThen_ok,List.map_toArray,List.map_cons,List.map_nil,hs,hx,hr];refine hK _ _ (h v' w' (Kd.R_of_own (enc:=Value.int .u8) (h1:=fun _=>rfl) ?_ (fun _ _=>trivial)) (HB.grown hg hbase (fun k hk=>(hown.lt k hk).1)))
 have e1 : encs (Value.int .u8) (xs ++ List.replicate m 0) = encs (Value.int .u8) xs ++ List.replicate m (Value.int .u8 0):=by simp [encs]
 rw [e1,List.length_append,List.length_replicate];exact hown'
end
theorem info_u8z : (Tryd.prog.info? 5).map (fun i=>(i.zero,i.size,i.bytes)) = some (some (.int .u8 0),1,1):=by kernel_rfl
theorem R_nil (w : World) (base : Nat) : Kd.R (Kd.int .u8) 5 w base (fun _=>True) (.slice none 0 0) []:=
 Kd.R_of_own (enc:=Value.int .u8) (h1:=fun _=>rfl) (World.ownsRow_nil w base _ 1) (fun _ _=>trivial)
set_option maxRecDepth 100000 in
set_option maxHeartbeats 4000000 in
theorem grow_nil (n : Nat) (hn : n ≤ 100000000) (w : World) :
 Calls Tryd.prog 67 #[.slice none 0 0,.int .i64 (n : Int)] w fun e w'=>∃ v,e = .returned v ∧ Kd.R (Kd.int .u8) 5 w' w.heap.size (fun _=>True) v [] ∧ Below w.heap.size w w':=by
 obtain ⟨x,hx⟩ : ∃ x : Int,x = (n : Int):=⟨_,rfl⟩;rw [← hx]
 have x0 : ¬ x < 0:=by omega
 have d0 : decide (x < 0) = false:=decide_eq_false x0
 have xw : wrap64 x = x:=by unfold wrap64;omega
 by_cases hp : 0 < n
 rotate_left
 ·have hn0 : n = 0:=by omega
  subst hn0
  have hx0 : x = 0:=by omega
  subst hx0;clear hx hp d0 xw x0 hn;go_enter Tryd.func67,Tryd.ntmps67
  go_wp2
  go_ret
  exact ⟨_,rfl,R_nil _ _,Below.refl _ _⟩
 have x1 : x > 0:=by omega
 have d1 : decide (x > 0) = true:=decide_eq_true x1;have Hx:=am hx;have Hp:=am hp;have Hn:=am hn;clear hx hp hn;go_enter Tryd.func67,Tryd.ntmps67
 go_wp2_with ((with_reducible refine gate_builtin (b:= .append) (xs:=#[.tmp 20,.tmp 21]) rfl ?_);at_builtin;refine Aside0.out ?_)
 refine am ?_;refine zeros_event (w0:=w) w.heap.size rfl (.tmp 20) (.tmp 21) 26 3 5 rfl Tryd.underlying26 Tryd.underlying3 info_u8z (.slice none 0 0) [] n x Hx.out Hp.out rfl rfl (R_nil _ _) (Below.refl _ _) (Nat.le_refl _) (by have:=Hn.out;simp only [List.length_nil];omega) ?_;intro v1 w1 hR_ hb_;have HB:=am hb_;obtain ⟨A1,c1,hv1_,hc1_,_⟩:=Kd.R_reads hR_;subst hv1_;have HR:=am hR_;clear hR_ hb_
 go_wp2
 go_ret
 exact ⟨_,rfl,Kd.R_take HR.out (Nat.zero_le _),HB.out⟩
theorem concat_calls (A : Option Addr) (c : Nat) (l : List (List Int)) (w : World) (hC : Kd.C (Kd.slice 5 (Kd.int .u8)) w A l.length l) (hc : l.length ≤ c) (hl : l.length ≤ 10000000) (hs : l.flatten.length ≤ 10000000) :
 Calls Tryd.prog 50 #[.slice A l.length c] w fun e w'=>∃ v,e = .returned v ∧ Kd.R (Kd.int .u8) 5 w' w.heap.size (fun _=>True) v l.flatten ∧ Below w.heap.size w w':=by
 have hfl : ∀ k,k < l.length → (l.take (k + 1)).flatten.length = (l.take k).flatten.length + (rd_L4 l (k : Int)).length:=fun k hk=>by
  rw [List.take_succ_eq_append_getElem hk,List.flatten_append,List.length_append]
  congr 1
  unfold rd_L4
  rw [Int.toNat_natCast,List.getD_eq_getElem?_getD,List.getElem?_eq_getElem hk]
  simp
 have hap : ∀ k,k < l.length → (l.take (k + 1)).flatten = (l.take k).flatten ++ rd_L4 l (k : Int):=fun k hk=>by
  rw [List.take_succ_eq_append_getElem hk,List.flatten_append]
  congr 1
  unfold rd_L4
  rw [Int.toNat_natCast,List.getD_eq_getElem?_getD,List.getElem?_eq_getElem hk]
  simp
 have hle : ∀ k,(l.take k).flatten.length ≤ l.flatten.length:=fun k=>by
  conv=>rhs;rw [← List.take_append_drop k l,List.flatten_append,List.length_append]
  omega
 have HC:=am hC;have HFL:=am hfl;have HAP:=am hap;have HLE:=am hle;have HS:=am hs;have HLN:=am hl;clear hC hfl hap hle hs;go_enter Tryd.func50,Tryd.ntmps50
 go_wp2
 go_loopw [11,3] (fun i s wr=>∃ x s0 : Int,i = .int .i64 x ∧ s = .int .i64 s0 ∧ (0 ≤ x ∧ x ≤ l.length) ∧ Aside0 (s0 = ((l.take x.toNat).flatten.length : Int)) ∧ wr = w)
  (fun i _ _=>l.length - (intOf i).toNat)
 case atStart=>exact ⟨0,0,rfl,rfl,⟨by omega,by omega⟩,⟨rfl⟩,rfl⟩
 case round=>
  obtain ⟨x,s0,rfl,rfl,⟨hx0,hx1⟩,HV,rfl⟩:=hrel
  by_cases hlt : x < l.length
  ·have d0 : decide (x < (l.length : Int)) = true:=decide_eq_true hlt
   have xw : wrap64 (x + 1) = x + 1:=by unfold wrap64;omega
   obtain ⟨ad,A1,c1,rfl,hcell,hc1,hC1⟩:=at_L4 HC.out x hx0 hlt;obtain ⟨q,hq⟩ : ∃ q : Int,q = ((rd_L4 l x).length : Int):=⟨_,rfl⟩;have hv:=HV.out;have h1:=HFL.out x.toNat (by omega);rw [Int.toNat_of_nonneg hx0] at h1;have h2:=HLE.out (x.toNat + 1);have hS:=HS.out
   have sw : wrap64 (s0 + q) = s0 + q:=by unfold wrap64;omega
   have d1 : decide (s0 + q < 0) = false:=decide_eq_false (by omega)
   have hqe : s0 + q = ((l.take (x + 1).toNat).flatten.length : Int):=by rw [show (x + 1).toNat = x.toNat + 1 by omega];omega
   have Hq:=am hqe;rw [hq] at sw d1;have HQ:=am hq;clear hv h1 h2 hS hqe hC1 hq
   go_wp2
   exact ⟨⟨x + 1,s0 + q,by first | rfl | (rw [xw]) | (simp [xw]),by rw [HQ.out] <;> first | rfl | (rw [sw]) | (simp [sw]),⟨by omega,by omega⟩,Hq,trivial⟩,by simp [intOf];omega⟩
  have d0 : decide (x < (l.length : Int)) = false:=decide_eq_false hlt
  have hx : x = l.length:=by omega
  subst hx;have hv:=HV.out;rw [Int.toNat_natCast,List.take_length] at hv;obtain ⟨N,hN⟩ : ∃ N,N = l.flatten.length:=⟨_,rfl⟩;rw [← hN] at hv;have hS:=HS.out
  have HN : N ≤ 10000000:=by omega
  have HNN:=am hN;subst hv;clear HV hN hS
  go_wp2_with (go_at_call 67;with_reducible refine (grow_nil N (by omega) _).mono ?_;rintro e w1 ⟨v1,rfl,hR_,hb_⟩;have HR1:=am hR_;have HB1:=am hb_;clear hR_ hb_)
  obtain ⟨wA,hwA⟩ : ∃ wA,wA = wr:=⟨_,rfl⟩;subst hwA
  go_loopw [27,6] (fun i v wr=>∃ x : Int,i = .int .i64 x ∧ (0 ≤ x ∧ x ≤ l.length) ∧ Aside0 (Kd.R (Kd.int .u8) 5 wr wA.heap.size (fun _=>True) v ((l.take x.toNat).flatten)) ∧ Aside0 (Below wA.heap.size wA wr))
   (fun i _ _=>l.length - (intOf i).toNat)
  case atStart=>exact ⟨0,rfl,⟨by omega,by omega⟩,HR1,HB1⟩
  case round=>
   obtain ⟨x,rfl,⟨hx0,hx1⟩,HV,HB⟩:=hrel
   by_cases hlt : x < l.length
   rotate_left
   ·have d0 : decide (x < (l.length : Int)) = false:=decide_eq_false hlt
    have hx : x = l.length:=by omega
    subst hx;have hv:=HV.out;rw [Int.toNat_natCast,List.take_length] at hv;have HV2:=am hv;clear HV hv
    go_wp2
    go_ret
    exact ⟨_,rfl,HV2.out,HB.out⟩
   have d0 : decide (x < (l.length : Int)) = true:=decide_eq_true hlt
   have xw : wrap64 (x + 1) = x + 1:=by unfold wrap64;omega
   obtain ⟨ad,A1,c1,rfl,hcell,hc1,hC1⟩:=at_L4 (Kd.C_below HC.out HB.out) x hx0 hlt;obtain ⟨q,hq⟩ : ∃ q,q = (rd_L4 l x).length:=⟨_,rfl⟩;have h1:=HFL.out x.toNat (by omega);rw [Int.toNat_of_nonneg hx0] at h1;have h2:=HLE.out (x.toNat + 1);have hS:=HS.out;have hap:=HAP.out x.toNat (by omega);rw [Int.toNat_of_nonneg hx0] at hap
   have hroom : ((l.take x.toNat).flatten.length + q) * 1 ≤ 140737488355328:=by omega
   have HR:=am hroom;have HP:=am hap;have HC1:=am hC1;rw [← hq] at hcell hc1;have HQ:=am hq;clear h1 h2 hS hap hroom hC1 hq
   go_wp2_with ((with_reducible refine gate_builtin (b:= .append) (xs:=#[.tmp 31,.tmp 32]) rfl ?_);at_builtin;refine Aside0.out ?_)
   refine am ?_;refine Kd.R_append_row (Value.int .u8) (0 : Int) (h1:=fun _=>rfl) (w0:=wA) wA.heap.size rfl (.tmp 31) (.tmp 32) 26 5 (.int .u8 0) 1 rfl Tryd.underlying26 info_u8z rfl (by decide) _ _ (rd_L4 l x) A1 q c1 (fun _=>True) rfl rfl (fun _ _=>trivial) HV.out (by rw [HQ.out];exact HC1.out) HB.out HB.out.size HR.out ?_;intro v3 w3 hR_ hb_ _ _;rw [← HP.out] at hR_;have HR3:=am hR_;have HB3:=am hb_;clear hR_ hb_
   go_wp2
   exact ⟨⟨x + 1,by first | rfl | (rw [xw]) | (simp [xw]),⟨by omega,by omega⟩,by rw [show (x + 1).toNat = x.toNat + 1 by omega];exact HR3,HB3⟩,by simp [intOf];omega⟩
theorem R_empty {w : World} {g base : Nat} (h : w.heap[g]? = some (.cells #[] 5 (0,0))) (hb : base ≤ g) : Kd.R (Kd.int .u8) 5 w base (fun _=>True) (.slice (some ⟨g,0,none⟩) 0 0) []:=
 Kd.R_of_own (enc:=Value.int .u8) (h1:=fun _=>rfl) ⟨rfl,.inr ⟨g,0,#[],rfl,hb,h,Nat.le_refl _,by unfold maxLen;decide,rfl,rfl⟩⟩ (fun _ _=>trivial)
set_option maxRecDepth 100000 in
set_option maxHeartbeats 4000000 in
theorem clone_calls (A : Option Addr) (c : Nat) (l : List Int) (w : World) (hC : Kd.C (Kd.int .u8) w A l.length l) (hl : l.length ≤ 100000000) :
 Calls Tryd.prog 48 #[.slice A l.length c] w fun e w'=>∃ v,e = .returned v ∧ Kd.R (Kd.int .u8) 5 w' w.heap.size (fun _=>True) v l ∧ Below w.heap.size w w':=by
 cases A with
 | none=>
   have h0 : l = []:=by
    rcases C_cells hC with ⟨h,_⟩ | ⟨ad,e,_⟩
    ·exact h
    ·cases e
   subst h0;have q : ∀ (W : World) (n c n' c' : Nat),(binOp .eql 26 (.slice none n c) (.slice none n' c')).run Tryd.prog W = .ok (.bool true) W:=fun W n c n' c'=>Lib.run_eql_slice_nil W _ _ none n c n' c' Tryd.underlying26;go_enter Tryd.func48,Tryd.ntmps48
   go_wp2
   go_ret
   exact ⟨_,rfl,R_nil _ _,Below.refl _ _⟩
 | some ad=>
   have q : ∀ (W : World) (n c n' c' : Nat),(binOp .eql 26 (.slice (some ad) n c) (.slice none n' c')).run Tryd.prog W = .ok (.bool false) W:=fun W n c n' c'=>Lib.run_eql_slice_nil W _ _ (some ad) n c n' c' Tryd.underlying26;have HC:=am hC;have HL:=am (show ([] : List Int).length + l.length ≤ 100000000 by simpa using hl);clear hC hl;go_enter Tryd.func48,Tryd.ntmps48
   go_wp2_with (first
    | ((with_reducible refine gate_dst (N:=5) rfl ?_);refine slice_event ?hg (N:=5) ?hd (cs:=#[]) (t:=5) (n:=0) (c:=0) ?hr ?_;(case hd=>rfl);(case hg=>rfl);(case hr=>first | (go_simp;done) | (go_simp;rfl));intro g1 hg_ w1 hbox_ hb_;have G1:=am hg_;have BX:=am hbox_;have HB:=am hb_;clear hg_ hbox_ hb_)
    | ((with_reducible refine gate_builtin (b:= .append) (xs:=#[.tmp 5,.tmp 6]) rfl ?_);at_builtin;refine Aside0.out ?_))
   refine am ?_;refine Kd.R_append_row (Value.int .u8) (0 : Int) (h1:=fun _=>rfl) (w0:=w) w.heap.size rfl (.tmp 5) (.tmp 6) 26 5 (.int .u8 0) 1 rfl Tryd.underlying26 info_u8z rfl (by decide) _ _ l (some ad) l.length c (fun _=>True) rfl rfl (fun _ _=>trivial) (R_empty BX.out (by have:=G1.out;omega)) (Kd.C_below HC.out HB.out) HB.out HB.out.size (by have:=HL.out;omega) ?_;intro v3 w3 hR_ hb_ _ _;rw [List.nil_append] at hR_;have HR3:=am hR_;have HB3:=am hb_;clear hR_ hb_
   go_wp2
   go_ret
   exact ⟨_,rfl,HR3.out,HB3.out⟩
end Go.Proofs.YtilckocpgififaaDoor.G
/- An array of bytes in a block of its own (as BArr of words). -/
namespace Go.Proofs.YtilckocpgififaaDoor.G
open Go.RowKit Go.Proofs.YtilckocpgififaaDoorW.PrintWords Go.Proofs.YtilckocpgififaaDoorW.PrintLast Go.Proofs.YtilckocpgififaaDoorW.PrintMore
set_option linter.unusedVariables false
set_option linter.unusedSimpArgs false
structure ArrB (w : World) (g : Nat) (V : List Int) : Prop where
 range : w.rangeAt g 0 (V.map (Value.int .u8))
 there : w.there g 0 V.length
theorem ArrB.cell {w : World} {g : Nat} {V : List Int} (h : ArrB w g V) (i : Nat) (hi : i < V.length) : w.cell? ⟨g,i,none⟩ = some (.int .u8 (V.getD i 0)):=by
 have:=h.range i (.int .u8 V[i]) (by simp [hi]);rw [Nat.zero_add] at this;rw [this,List.getD_eq_getElem?_getD,List.getElem?_eq_getElem hi];rfl
theorem ArrB.frozen {w : World} {g : Nat} {V : List Int} (h : ArrB w g V) (i : Nat) (hi : i < V.length) : w.frozen? ⟨g,i,none⟩ = false:=by
 have:=(h.there i hi).2;rwa [Nat.zero_add] at this
theorem ArrB.set {w : World} {g : Nat} {V : List Int} (h : ArrB w g V) (i : Nat) (hi : i < V.length) (x : Int) : ArrB (w.setCell ⟨g,i,none⟩ (.int .u8 x)) g (V.set i x):=by
 refine ⟨?_,?_⟩
 ·have:=arr_set_range h.range (by rw [List.length_map];exact h.there) i (by rw [List.length_map];exact hi) (.int .u8 x);rw [← List.map_set] at this;exact this
 ·rw [List.length_set];exact World.there_setCells h.there g i [.int .u8 x]
end Go.Proofs.YtilckocpgififaaDoor.G
