/- code.isCall: may a call be, within so many batches? By hand: a closure over the depth, and slices.ContainsFunc. -/
import Derived.Test.YtilckocpgififaaExHStep
import Derived.Test.YtilckocpgififaaExGx1
import Derived.IntWalk
import Derived.OneCell
namespace Go.Proofs.Ytilckocpgififaa.G
open Go.RowKit Go.Proofs.YtilckocpgififaaW.PrintWords Go.Proofs.YtilckocpgififaaW.PrintLast Go.Proofs.YtilckocpgififaaW.PrintMore
set_option linter.unusedVariables false
set_option linter.unusedSimpArgs false
def leafOk (k t n : Int) (l : List S25) : Bool:=
 if k = 1 then decide (l.length = 0) && decide (t = 0) && decide (0 ≤ n ∧ n ≤ 1073741824)
 else if k = 2 then decide (l.length = 0) && decide (0 ≤ t ∧ t ≤ 9) && decide (0 ≤ n ∧ n ≤ 1073741824)
 else if k = 3 ∨ k = 4 then decide (l.length = 0) && decide (t = 0) && decide (0 ≤ n ∧ n ≤ 11)
 else false
def okC : Nat → Int → Int → Int → List S25 → Bool
 | 0,k,t,n,l=>leafOk k t n l
 | f + 1,k,t,n,l=>if k = 5 then decide (t = 0) && decide (n = 0) && decide (1 ≤ l.length ∧ l.length ≤ 4) && l.all (fun x=>okC f x.f0 x.f1 x.f2 x.f3) else leafOk k t n l
abbrev okT (f : Nat) (x : S25) : Bool:=okC f x.f0 x.f1 x.f2 x.f3
def IsCallAt (f : Nat) (d : Int) : Prop:=∀ (k t n : Int) (A : Option Addr) (c : Nat) (l : List S25) (w : World),Kd.C k25 w A l.length l → l.length ≤ c →
 Calls Try.prog 27 #[.agg #[.int .i64 k,.int .i64 t,.int .i64 n,.slice A l.length c],.int .i64 d] w fun e w'=>e = .returned (.bool (okC f k t n l)) ∧ Below w.heap.size w w'
set_option maxRecDepth 100000 in
set_option maxHeartbeats 2000000 in
theorem bad_calls (f : Nat) (d : Int) (hd : 0 ≤ d ∧ d < 100) (ih : IsCallAt f (d + 1)) (k t n : Int) (A : Option Addr) (c : Nat) (l : List S25) (g : Nat) (w : World) (hC : Kd.C k25 w A l.length l) (hc : l.length ≤ c) (hg : w.cell? ⟨g,0,none⟩ = some (.int .i64 d)) (hgl : g < w.heap.size) :
 Calls Try.prog 53 #[.agg #[.int .i64 k,.int .i64 t,.int .i64 n,.slice A l.length c],.pointer (some ⟨g,0,none⟩)] w fun e w'=>e = .returned (.bool (!okC f k t n l)) ∧ Below w.heap.size w w':=by
 have hw2 : IntKind.i64.wrap (d + 1) = d + 1:=IntWalk.i64_in _ (by omega);have hg2 : (w.alloc (.cells #[.int .i64 k,.int .i64 t,.int .i64 n,.slice A l.length c] 25)).cell? ⟨g,0,none⟩ = some (.int .i64 d):=(((Below.refl w.heap.size w).alloc (Nat.le_refl _) _).cell hgl).trans hg;have hC2 : Kd.C k25 (w.alloc (.cells #[.int .i64 k,.int .i64 t,.int .i64 n,.slice A l.length c] 25)) A l.length l:=Kd.C_alloc hC _;go_enter Try.func53,Try.ntmps53
 go_wp2_with (go_at_call 27;refine (ih _ _ _ _ _ _ _ hC2 hc).mono ?_;rintro e w1 ⟨rfl,hb1⟩)
 go_ret
 exact ⟨rfl,((Below.refl w.heap.size w).alloc (Nat.le_refl _) _).trans (hb1.mono (by simp))⟩
theorem rd_T (l : List S25) (i : Nat) (h : i < l.length) : rd_T25 l (i : Int) = l[i]:=by
 unfold rd_T25
 rw [Int.toNat_natCast,List.getD_eq_getElem?_getD,List.getElem?_eq_getElem h];rfl
def badAt (f : Nat) : List S25 → Nat → Int
 | [],_=> -1
 | x :: l,i=>if okT f x then badAt f l (i + 1) else (i : Int)
theorem badAt_all (f : Nat) (l : List S25) : ∀ i,decide (badAt f l i ≥ 0) = !l.all (okT f):=by
 induction l with
 | nil=>intro i;simp [badAt]
 | cons x l ih=>
   intro i
   unfold badAt
   by_cases h : okT f x = true
   rotate_left
   ·rw [if_neg h];simp [h]
   rw [if_pos h,ih];simp [h]
set_option maxRecDepth 100000 in
set_option maxHeartbeats 4000000 in
theorem index_calls (f : Nat) (d : Int) (hd : 0 ≤ d ∧ d < 100) (ih : IsCallAt f (d + 1)) (A : Option Addr) (c : Nat) (l : List S25) (g : Nat) (w : World) (hC : Kd.C k25 w A l.length l) (hg : w.cell? ⟨g,0,none⟩ = some (.int .i64 d)) (hgl : g < w.heap.size) (hl : l.length ≤ 4) :
 Calls Try.prog 66 #[.slice A l.length c,.func (.func 53) #[] #[.pointer (some ⟨g,0,none⟩)]] w fun e w'=>e = .returned (.int .i64 (badAt f l 0)) ∧ Below w.heap.size w w':=by
 have HC:=am hC;have HG:=am hg;clear hC hg;go_enter Try.func66,Try.ntmps66
 go_wp2
 go_loopw [8] (fun i wr=>∃ k : Nat,i = .int .i64 (k : Int) ∧ k ≤ l.length ∧ Aside0 (badAt f l 0 = badAt f (l.drop k) k) ∧ Aside0 (Below w.heap.size w wr))
  (fun i _=>l.length - (intOf i).toNat)
 case atStart=>exact ⟨0,rfl,Nat.zero_le _,⟨rfl⟩,⟨Below.refl _ _⟩⟩
 case round=>
  obtain ⟨k,rfl,hk,HA,HB⟩:=hrel
  by_cases hlt : k < l.length
  rotate_left
  ·obtain rfl : k = l.length:=by omega
   have HA2:=HA.out;rw [List.drop_eq_nil_of_le (Nat.le_refl _),badAt] at HA2;have HA4:=am HA2;clear HA2;have g5 : decide ((l.length : Int) < (l.length : Int)) = false:=decide_eq_false (by omega)
   go_wp2
   go_ret
   exact ⟨by rw [HA4.out];rfl,HB.out⟩
  have d0 : decide ((k : Int) < (l.length : Int)) = true:=decide_eq_true (by omega);obtain ⟨ad,A3,c3,eA,h0,h1,h2,h3,hl3,hC3⟩:=at_T25 (Kd.C_below HC.out HB.out) (k : Int) (by omega) (by omega);subst eA;rw [rd_T l k hlt] at h0 h1 h2 h3 hl3 hC3;simp only [Int.toNat_natCast] at h0 h1 h2 h3;have hgw : wr.cell? ⟨g,0,none⟩ = some (.int .i64 d):=(HB.out.cell hgl).trans HG.out;have HA2:=HA.out;rw [List.drop_eq_getElem_cons hlt,badAt] at HA2
  have g0 : (0 : Int) ≤ (k : Int):=by omega
  have g1 : (k : Int) < (l.length : Int):=by omega
  have HC3:=am hC3;have HL3:=am hl3;have HGW:=am hgw;clear hC3 hl3 hgw
  by_cases hok : okT f l[k] = true
  rotate_left
  ·rw [if_neg hok] at HA2
   have hok' : okC f l[k].f0 l[k].f1 l[k].f2 l[k].f3 = false:=by simpa using hok
   have HA4:=am HA2;clear HA2
   go_wp2_with (go_at_call 53;refine (bad_calls f d hd ih _ _ _ _ _ _ g _ HC3.out HL3.out HGW.out (Nat.lt_of_lt_of_le hgl HB.out.size)).mono ?_;rintro e w1 ⟨rfl,hb1⟩;rw [hok'];have HB1:=am (HB.out.trans (hb1.mono HB.out.size));clear hb1)
   go_ret
   exact ⟨by rw [HA4.out];rfl,HB1.out⟩
  rw [if_pos hok] at HA2;have HA3:=am HA2;have hok' : okC f l[k].f0 l[k].f1 l[k].f2 l[k].f3 = true:=hok;clear HA2
  go_wp2_with (go_at_call 53;refine (bad_calls f d hd ih _ _ _ _ _ _ g _ HC3.out HL3.out HGW.out (Nat.lt_of_lt_of_le hgl HB.out.size)).mono ?_;rintro e w1 ⟨rfl,hb1⟩;rw [hok'];have HB1:=am (HB.out.trans (hb1.mono HB.out.size));clear hb1)
  exact ⟨⟨k + 1,by simp,by omega,HA3,HB1⟩,by simp [intOf];omega⟩
set_option maxRecDepth 100000 in
theorem contains_calls (f : Nat) (d : Int) (hd : 0 ≤ d ∧ d < 100) (ih : IsCallAt f (d + 1)) (A : Option Addr) (c : Nat) (l : List S25) (g : Nat) (w : World) (hC : Kd.C k25 w A l.length l) (hg : w.cell? ⟨g,0,none⟩ = some (.int .i64 d)) (hgl : g < w.heap.size) (hl : l.length ≤ 4) :
 Calls Try.prog 54 #[.slice A l.length c,.func (.func 53) #[] #[.pointer (some ⟨g,0,none⟩)]] w fun e w'=>e = .returned (.bool (!l.all (okT f))) ∧ Below w.heap.size w w':=by
 have h:=badAt_all f l 0;go_enter Try.func54,Try.ntmps54
 go_wp2_with (go_at_call 66;refine (index_calls f d hd ih A c l g w hC hg hgl hl).mono ?_;rintro e w1 ⟨rfl,hb1⟩)
 go_ret
 exact ⟨by rw [← h];rfl,hb1⟩
set_option maxRecDepth 100000 in
set_option maxHeartbeats 16000000 in
theorem isCall_leaf (f : Nat) (d : Int) (k t n : Int) (A : Option Addr) (c : Nat) (l : List S25) (w : World) (hk : k ≠ 5) :
 Calls Try.prog 27 #[.agg #[.int .i64 k,.int .i64 t,.int .i64 n,.slice A l.length c],.int .i64 d] w fun e w'=>e = .returned (.bool (leafOk k t n l)) ∧ Below w.heap.size w w':=by
 have hB : ∀ o1 o2,Below w.heap.size w ((w.alloc o1).alloc o2):=fun o1 o2=>((Below.refl _ w).alloc (Nat.le_refl _) _).alloc (by simp) _;have k5 : decide (k = 5) = false:=decide_eq_false hk
 unfold leafOk
 by_cases h1 : k = 1
 ·subst h1;clear hk k5;rw [if_pos rfl];go_enter Try.func27,Try.ntmps27
  go_wp2
  all_goals go_ret
  all_goals exact ⟨by first | rfl | (simp [*];done) | (simp [*];omega),hB _ _⟩
 by_cases h2 : k = 2
 ·subst h2;clear hk k5 h1;rw [if_neg (by decide),if_pos rfl];go_enter Try.func27,Try.ntmps27
  go_wp2
  all_goals go_ret
  all_goals exact ⟨by first | rfl | (simp [*];done) | (simp [*];omega),hB _ _⟩
 by_cases h3 : k = 3 ∨ k = 4
 ·rw [if_neg h1,if_neg h2,if_pos h3]
  rcases h3 with rfl | rfl
  all_goals clear hk k5 h1 h2
  all_goals go_enter Try.func27,Try.ntmps27
  all_goals go_wp2
  all_goals go_ret
  all_goals exact ⟨by first | rfl | (simp [*];done) | (simp [*];omega),hB _ _⟩
 rw [if_neg h1,if_neg h2,if_neg h3];have k1 : decide (k = 1) = false:=decide_eq_false h1;have k2 : decide (k = 2) = false:=decide_eq_false h2;have k3 : decide (k = 3) = false:=decide_eq_false (fun e=>h3 (.inl e));have k4 : decide (k = 4) = false:=decide_eq_false (fun e=>h3 (.inr e));go_enter Try.func27,Try.ntmps27
 go_wp2
 all_goals go_ret
 all_goals exact ⟨by first | rfl | (simp [*];done) | (simp [*];omega),hB _ _⟩
set_option maxRecDepth 100000 in
set_option maxHeartbeats 16000000 in
theorem isCall_batch0 (d : Int) (hd : 3 ≤ d) (t n : Int) (A : Option Addr) (c : Nat) (l : List S25) (w : World) :
 Calls Try.prog 27 #[.agg #[.int .i64 5,.int .i64 t,.int .i64 n,.slice A l.length c],.int .i64 d] w fun e w'=>e = .returned (.bool false) ∧ Below w.heap.size w w':=by
 have hB : ∀ o1 o2,Below w.heap.size w ((w.alloc o1).alloc o2):=fun o1 o2=>((Below.refl _ w).alloc (Nat.le_refl _) _).alloc (by simp) _;have d0 : decide (d < 3) = false:=decide_eq_false (by omega);go_enter Try.func27,Try.ntmps27
 go_wp2
 all_goals go_ret
 all_goals exact ⟨by first | rfl | (simp [*];done) | (simp [*];omega),hB _ _⟩
set_option maxRecDepth 100000 in
set_option maxHeartbeats 16000000 in
theorem isCall_batch (f : Nat) (d : Int) (hd : 0 ≤ d ∧ d < 3) (ih : IsCallAt f (d + 1)) (t n : Int) (A : Option Addr) (c : Nat) (l : List S25) (w : World) (hC : Kd.C k25 w A l.length l) :
 Calls Try.prog 27 #[.agg #[.int .i64 5,.int .i64 t,.int .i64 n,.slice A l.length c],.int .i64 d] w fun e w'=>e = .returned (.bool (decide (t = 0) && decide (n = 0) && decide (1 ≤ l.length ∧ l.length ≤ 4) && l.all (okT f))) ∧ Below w.heap.size w w':=by
 have hB : ∀ o1 o2,Below w.heap.size w ((w.alloc o1).alloc o2):=fun o1 o2=>((Below.refl _ w).alloc (Nat.le_refl _) _).alloc (by simp) _;have d0 : decide (d < 3) = true:=decide_eq_true (by omega);have HC:=am hC;have hc2 : ∀ o1 o2,Kd.C k25 ((w.alloc o1).alloc o2) A l.length l:=fun o1 o2=>Kd.C_alloc (Kd.C_alloc HC.out _) _
 have hg2 : ∀ o1,((w.alloc o1).alloc (.cells #[.int .i64 d] 3)).cell? ⟨w.heap.size + 1,0,none⟩ = some (.int .i64 d):=fun o1=>by simp
 have HG2:=am hg2;have HC2:=am hc2;clear hC hg2 hc2
 by_cases hl : 1 ≤ l.length ∧ l.length ≤ 4
 ·have l1 : decide (1 ≤ (l.length : Int)) = true:=decide_eq_true (by omega);have l2 : decide ((l.length : Int) ≤ 4) = true:=decide_eq_true (by omega);go_enter Try.func27,Try.ntmps27
  go_wp2_with (first | (go_at_call 54;refine (contains_calls f d (by omega) ih A c l (w.heap.size + 1) _ (HC2.out _ _) (HG2.out _) (by simp) hl.2).mono ?_;rintro e w1 ⟨rfl,hb1⟩) | go_in)
  all_goals go_ret
  all_goals first
   | exact ⟨by first | rfl | (simp [*];done) | (simp [*];omega),hB _ _⟩
   | exact ⟨by first | rfl | (simp [*];done) | (simp [*];omega),(hB _ _).trans (hb1.mono (by simp only [World.size_alloc];omega))⟩
 rw [decide_eq_false hl,Bool.and_false,Bool.false_and];have l3 : decide (1 ≤ (l.length : Int)) = true → decide ((l.length : Int) ≤ 4) = false:=fun h=>decide_eq_false (by have:=of_decide_eq_true h;omega)
 by_cases l1 : 1 ≤ (l.length : Int)
 rotate_left
 ·have l1':=decide_eq_false l1;go_enter Try.func27,Try.ntmps27
  go_wp2
  all_goals go_ret
  all_goals exact ⟨by first | rfl | (simp [*];done) | (simp [*];omega),hB _ _⟩
 have l2:=l3 (decide_eq_true l1);have l1':=decide_eq_true l1;go_enter Try.func27,Try.ntmps27
 go_wp2
 all_goals go_ret
 all_goals exact ⟨by first | rfl | (simp [*];done) | (simp [*];omega),hB _ _⟩
theorem isCall_at : ∀ (f : Nat) (d : Int),d + f = 3 → 0 ≤ d → IsCallAt f d
 | 0,d,h,h0=>fun k t n A c l w hC hc=>by
   by_cases hk : k = 5
   rotate_left
   ·exact isCall_leaf 0 d k t n A c l w hk
   subst hk;exact isCall_batch0 d (by omega) t n A c l w
 | f + 1,d,h,h0=>fun k t n A c l w hC hc=>by
   unfold okC
   by_cases hk : k = 5
   rotate_left
   ·rw [if_neg hk];exact isCall_leaf f d k t n A c l w hk
   subst hk;rw [if_pos rfl];exact isCall_batch f d (by omega) (isCall_at f (d + 1) (by omega) (by omega)) t n A c l w hC
def code_isCall.f (k t n : Int) (l : List S25) (d : Int) : Option Bool:=if d = 0 then some (okC 3 k t n l) else none
theorem code_isCall.calls (k t n : Int) (A : Option Addr) (c : Nat) (l : List S25) (d : Int) (r : Bool) (w : World) (hC : Kd.C k25 w A l.length l) (hc : l.length ≤ c) (h : code_isCall.f k t n l d = some r) :
 Calls Try.prog 27 #[.agg #[.int .i64 k,.int .i64 t,.int .i64 n,.slice A l.length c],.int .i64 d] w fun e w'=>e = .returned (.bool r) ∧ Below w.heap.size w w':=by
 unfold code_isCall.f at h
 by_cases hd : d = 0
 rotate_left
 ·rw [if_neg hd] at h;cases h
 subst hd;rw [if_pos rfl] at h;obtain rfl:=Option.some.inj h;exact isCall_at 3 0 (by omega) (by omega) k t n A c l w hC hc
end Go.Proofs.Ytilckocpgififaa.G
/- code.SameCall: are two calls one? By hand: slices.EqualFunc over itself. -/
namespace Go.Proofs.Ytilckocpgififaa.G
open Go.RowKit Go.Proofs.YtilckocpgififaaW.PrintWords Go.Proofs.YtilckocpgififaaW.PrintLast Go.Proofs.YtilckocpgififaaW.PrintMore
set_option linter.unusedVariables false
set_option linter.unusedSimpArgs false
def allM (p : S25 → S25 → Option Bool) : List S25 → List S25 → Option Bool
 | x :: l,y :: m=>(p x y).bind fun b=>if b = true then allM p l m else some false
 | _,_=>some true
def sameF : Nat → S25 → S25 → Option Bool
 | 0,_,_=>none
 | f + 1,a,b=>if a.f0 = b.f0 ∧ a.f1 = b.f1 ∧ a.f2 = b.f2 ∧ a.f3.length = b.f3.length then allM (sameF f) a.f3 b.f3 else some false
def SameAt (f : Nat) : Prop:=∀ (a b : S25) (A B : Option Addr) (c d : Nat) (r : Bool) (w : World),Kd.C k25 w A a.f3.length a.f3 → a.f3.length ≤ c → Kd.C k25 w B b.f3.length b.f3 → b.f3.length ≤ d → sameF f a b = some r →
 Calls Try.prog 51 #[.agg #[.int .i64 a.f0,.int .i64 a.f1,.int .i64 a.f2,.slice A a.f3.length c],.agg #[.int .i64 b.f0,.int .i64 b.f1,.int .i64 b.f2,.slice B b.f3.length d]] w fun e w'=>e = .returned (.bool r) ∧ Below w.heap.size w w'
theorem C_short {w : World} {A : Option Addr} {n : Nat} {l : List S25} (h : Kd.C k25 w A n l) : n ≤ 9223372036854775807:=h.2.1
set_option maxRecDepth 100000 in
set_option maxHeartbeats 8000000 in
theorem equal_calls (f : Nat) (ih : SameAt f) (A B : Option Addr) (c d n : Nat) (l m : List S25) (r : Bool) (w : World) (hC : Kd.C k25 w A n l) (hD : Kd.C k25 w B n m) (hl : l.length = n) (hm : m.length = n) (hr : allM (sameF f) l m = some r) :
 Calls Try.prog 65 #[.slice A n c,.slice B n d,.func (.func 51) #[] #[]] w fun e w'=>e = .returned (.bool r) ∧ Below w.heap.size w w':=by
 have hlen : (n : Int) ≤ 9223372036854775807:=by have:=C_short hC;omega
 have HC:=am hC;have HD:=am hD;have HR:=am hr;clear hC hD hr;go_enter Try.func65,Try.ntmps65
 go_wp2
 go_loopw [17] (fun i wr=>∃ k : Nat,i = .int .i64 (k : Int) ∧ k ≤ n ∧ Aside0 (allM (sameF f) (l.drop k) (m.drop k) = some r) ∧ Aside0 (Below w.heap.size w wr))
  (fun i _=>n - (intOf i).toNat)
 case atStart=>exact ⟨0,rfl,Nat.zero_le _,HR,⟨Below.refl _ _⟩⟩
 case round=>
  clear HR;obtain ⟨k,rfl,hk,HA,HB⟩:=hrel
  by_cases hlt : k < n
  rotate_left
  ·obtain rfl : k = n:=by omega
   have HA2:=HA.out;rw [List.drop_eq_nil_of_le (by omega),allM] at HA2
   ·have HA4:=am (Option.some.inj HA2);have g5 : decide ((k : Int) < (k : Int)) = false:=decide_eq_false (by omega);clear HA2
    go_wp2
    go_ret
    exact ⟨by rw [← HA4.out];rfl,HB.out⟩
   ·intro x l' y m' e;cases e
  have d0 : decide ((k : Int) < (n : Int)) = true:=decide_eq_true (by omega);have hw : IntKind.i64.wrap ((k : Int) + 1) = (k : Int) + 1:=IntWalk.i64_in _ (by omega);obtain ⟨ad,A3,c3,eA,h0,h1,h2,h3,hl3,hC3⟩:=at_T25 (Kd.C_below HC.out HB.out) (k : Int) (by omega) (by omega);obtain ⟨be,B3,d3,eB,j0,j1,j2,j3,jl3,jC3⟩:=at_T25 (Kd.C_below HD.out HB.out) (k : Int) (by omega) (by omega);subst eA eB
  have hkl : k < l.length:=by omega
  have hkm : k < m.length:=by omega
  rw [rd_T l k hkl] at h0 h1 h2 h3 hl3 hC3;rw [rd_T m k hkm] at j0 j1 j2 j3 jl3 jC3;have HA2:=HA.out;rw [List.drop_eq_getElem_cons hkl,List.drop_eq_getElem_cons hkm,allM] at HA2;obtain ⟨x,hx⟩ : ∃ x,x = l[k]:=⟨_,rfl⟩;obtain ⟨y,hy⟩ : ∃ y,y = m[k]:=⟨_,rfl⟩;rw [← hx] at h0 h1 h2 h3 hl3 hC3 HA2;rw [← hy] at j0 j1 j2 j3 jl3 jC3 HA2;clear hx hy HA hkl hkm;obtain ⟨b,hb,HA3⟩:=Option.bind_eq_some_iff.1 HA2;simp only [Int.toNat_natCast] at h0 h1 h2 h3 j0 j1 j2 j3
  have g0 : (0 : Int) ≤ (k : Int):=by omega
  have g1 : (k : Int) < (n : Int):=by omega
  have HC3:=am hC3;have HL3:=am hl3;have JC3:=am jC3;have JL3:=am jl3;have Hb:=am hb;have HA4:=am HA3;clear hC3 hl3 jC3 jl3 hb HA3 HA2;have k1 : ∀ W,Below wr.heap.size wr W → Kd.C k25 W A3 x.f3.length x.f3:=fun W hW=>Kd.C_below HC3.out hW;have k2 : ∀ W,Below wr.heap.size wr W → Kd.C k25 W B3 y.f3.length y.f3:=fun W hW=>Kd.C_below JC3.out hW;have hb1 : Below wr.heap.size wr (wr.alloc (.cells #[.int .i64 x.f0,.int .i64 x.f1,.int .i64 x.f2,.slice A3 x.f3.length c3] 25)):=(Below.refl _ wr).alloc (Nat.le_refl _) _;have hb2 : Below wr.heap.size wr ((wr.alloc (.cells #[.int .i64 x.f0,.int .i64 x.f1,.int .i64 x.f2,.slice A3 x.f3.length c3] 25)).alloc (.cells #[.int .i64 y.f0,.int .i64 y.f1,.int .i64 y.f2,.slice B3 y.f3.length d3] 25)):=hb1.alloc (by simp) _;replace j0:=(hb1.cell (World.block_lt_of_cell? _ _ j0)).trans j0;replace j1:=(hb1.cell (World.block_lt_of_cell? _ _ j1)).trans j1;replace j2:=(hb1.cell (World.block_lt_of_cell? _ _ j2)).trans j2;replace j3:=(hb1.cell (World.block_lt_of_cell? _ _ j3)).trans j3;have HB2:=am hb2;have q1:=am (k1 _ hb2);have q2:=am (k2 _ hb2);clear hb1 hb2 k1 k2
  cases b with
  | true=>
    go_wp2_with (go_at_call 51;refine (ih x y _ _ _ _ true _ q1.out HL3.out q2.out JL3.out Hb.out).mono ?_;rintro e w1 ⟨rfl,hb3⟩;have HB3:=am (HB.out.trans ((HB2.out.trans (hb3.mono HB2.out.size)).mono HB.out.size));clear hb3)
    exact ⟨⟨k + 1,by simp,by omega,⟨by have:=HA4.out;simpa using this⟩,HB3⟩,by simp [intOf];omega⟩
  | false=>
    have HA5:=am (Option.some.inj (by have:=HA4.out;simpa using this : some false = some r))
    go_wp2_with (go_at_call 51;refine (ih x y _ _ _ _ false _ q1.out HL3.out q2.out JL3.out Hb.out).mono ?_;rintro e w1 ⟨rfl,hb3⟩;have HB3:=am (HB.out.trans ((HB2.out.trans (hb3.mono HB2.out.size)).mono HB.out.size));clear hb3)
    go_ret
    exact ⟨by rw [← HA5.out];rfl,HB3.out⟩
set_option maxRecDepth 100000 in
set_option maxHeartbeats 8000000 in
theorem equal_ne (A B : Option Addr) (c d n m : Nat) (h : n ≠ m) (w : World) :
 Calls Try.prog 65 #[.slice A n c,.slice B m d,.func (.func 51) #[] #[]] w fun e w'=>e = .returned (.bool false) ∧ Below w.heap.size w w':=by
 have h1 : decide ((n : Int) = (m : Int)) = false:=decide_eq_false (by omega);have h2 : ¬ n = m:=h;go_enter Try.func65,Try.ntmps65
 go_wp2
 go_ret
 exact ⟨rfl,Below.refl _ _⟩
set_option maxRecDepth 100000 in
set_option maxHeartbeats 8000000 in
theorem same_at : ∀ f,SameAt f
 | 0=>fun a b A B c d r w _ _ _ _ h=>by simp [sameF] at h
 | f + 1=>fun a b A B c d r w hC hc hD hd h=>by
   obtain ⟨a0,a1,a2,l⟩:=a;obtain ⟨b0,b1,b2,m⟩:=b;simp only [sameF] at h
   dsimp only at hC hc hD hd ⊢
   have ih:=same_at f;have hB : ∀ o1 o2,Below w.heap.size w ((w.alloc o1).alloc o2):=fun o1 o2=>((Below.refl _ w).alloc (Nat.le_refl _) _).alloc (by simp) _;have HC : Aside0 (∀ o1 o2,Kd.C k25 ((w.alloc o1).alloc o2) A l.length l):=⟨fun o1 o2=>Kd.C_alloc (Kd.C_alloc hC _) _⟩;have HD : Aside0 (∀ o1 o2,Kd.C k25 ((w.alloc o1).alloc o2) B m.length m):=⟨fun o1 o2=>Kd.C_alloc (Kd.C_alloc hD _) _⟩
   by_cases hl : l.length = m.length
   rotate_left
   ·have HH2:=am (Option.some.inj (by rwa [if_neg (fun q=>hl q.2.2.2)] at h : some false = some r));clear h;go_enter Try.func51,Try.ntmps51
    go_wp2_with (go_at_call 65;refine (equal_ne A B c d _ _ hl _).mono ?_;rintro e w1 ⟨rfl,hb1⟩)
    all_goals go_ret
    all_goals first
     | exact ⟨by rw [← HH2.out];rfl,hB _ _⟩
     | exact ⟨by rw [← HH2.out];rfl,(hB _ _).trans (hb1.mono (hB _ _).size)⟩
   have HH : Aside0 ((if a0 = b0 ∧ a1 = b1 ∧ a2 = b2 then allM (sameF f) l m else some false) = some r):=⟨by simpa [hl] using h⟩;clear h hC hD
   by_cases e0 : a0 = b0
   rotate_left
   ·have HH2:=am (Option.some.inj (by have:=HH.out;rwa [if_neg (fun q=>e0 q.1)] at this : some false = some r));go_enter Try.func51,Try.ntmps51
    go_wp2
    go_ret
    exact ⟨by rw [← HH2.out];rfl,hB _ _⟩
   by_cases e1 : a1 = b1
   rotate_left
   ·have HH2:=am (Option.some.inj (by have:=HH.out;rwa [if_neg (fun q=>e1 q.2.1)] at this : some false = some r));subst e0;go_enter Try.func51,Try.ntmps51
    go_wp2
    go_ret
    exact ⟨by rw [← HH2.out];rfl,hB _ _⟩
   by_cases e2 : a2 = b2
   rotate_left
   ·have HH2:=am (Option.some.inj (by have:=HH.out;rwa [if_neg (fun q=>e2 q.2.2)] at this : some false = some r));subst e0 e1;go_enter Try.func51,Try.ntmps51
    go_wp2
    go_ret
    exact ⟨by rw [← HH2.out];rfl,hB _ _⟩
   have HH2:=am (by have:=HH.out;rwa [if_pos ⟨e0,e1,e2⟩] at this : allM (sameF f) l m = some r);have HL:=am hl;subst e0 e1 e2;have HD2 : Aside0 (∀ o1 o2,Kd.C k25 ((w.alloc o1).alloc o2) B l.length m):=⟨by rw [HL.out];exact HD.out⟩;obtain ⟨n,hn⟩ : ∃ n,n = m.length:=⟨_,rfl⟩
   have hln : l.length = n:=by omega
   rw [hln,← hn];rw [hln] at HC HD2;clear hl HL HD HH;have HN:=am hn;have HLN:=am hln;clear hn hln;go_enter Try.func51,Try.ntmps51
   go_wp2_with (go_at_call 65;refine (equal_calls f ih A B c d n l m r _ (HC.out _ _) (HD2.out _ _) HLN.out HN.out.symm HH2.out).mono ?_;rintro e w1 ⟨rfl,hb1⟩)
   go_ret
   exact ⟨rfl,(hB _ _).trans (hb1.mono (hB _ _).size)⟩
theorem code_SameCall.calls (f : Nat) (a b : S25) (A B : Option Addr) (c d : Nat) (r : Bool) (w : World) (hC : Kd.C k25 w A a.f3.length a.f3) (hc : a.f3.length ≤ c) (hD : Kd.C k25 w B b.f3.length b.f3) (hd : b.f3.length ≤ d) (h : sameF f a b = some r) :
 Calls Try.prog 51 #[.agg #[.int .i64 a.f0,.int .i64 a.f1,.int .i64 a.f2,.slice A a.f3.length c],.agg #[.int .i64 b.f0,.int .i64 b.f1,.int .i64 b.f2,.slice B b.f3.length d]] w fun e w'=>e = .returned (.bool r) ∧ Below w.heap.size w w':=same_at f a b A B c d r w hC hc hD hd h
end Go.Proofs.Ytilckocpgififaa.G
