/- code.IsExt and the reference's IsExt, of every extrinsic: what they tell, and that it is one. -/
import Derived.Test.YtilckocpgififaaExHIsExtC
import Derived.Test.YtilckocpgififaaExHNamedS
import Derived.Test.YtilckocpgififaaExHRefIsExt
import Derived.Test.YtilckocpgififaaExHTaken0
import Derived.Laws.IdiomCopy
import Derived.Test.YtilckocpgififaaExHStep
import Derived.Deep.RegionHeld3
import Derived.Test.YtilckocpgififaaExGx7
import Derived.Test.YtilckocpgififaaExGx10
namespace Go.Proofs.Ytilckocpgififaa.G
open Go.Extern.Stop (cell)
open Go.RowKit Go.Proofs.YtilckocpgififaaW.PrintWords Go.Proofs.YtilckocpgififaaW.PrintLast Go.Proofs.YtilckocpgififaaW.PrintMore Go.Proofs.Ytilckocpgififaa.PNum
set_option linter.unusedVariables false
set_option linter.unusedSimpArgs false
/-! ### votes -/
def capOk (a n s : Int) : Bool:=decide (0 ≤ a ∧ a ≤ 1073741824) && decide (0 ≤ n ∧ n ≤ 1073741824) && decide (0 ≤ s ∧ s ≤ 1073741824) && decide (a + n + s ≤ 1073741824)
def voteOk (x : Ext) : Bool:=capOk x.va x.vn x.vs && (if x.vkind = 1 then inB x.vlevel 0 6 && decide (x.vn = 0) && decide (x.vs = 0) else if x.vkind = 2 then !x.vaye && decide (x.vlevel = 0) && decide (x.vs = 0) else if x.vkind = 3 then !x.vaye && decide (x.vlevel = 0) else false)
theorem cin_tells (a b c : Int) : conv_isIn.f a b c = some (inB a b c):=by
 unfold conv_isIn.f inB
 by_cases h : a ≥ b
 rotate_left
 ·rw [if_neg h];congr 1;exact (decide_eq_false (fun q=>h q.1)).symm
 rw [if_pos h];congr 1;exact decide_eq_decide.2 ⟨fun q=>⟨h,q⟩,fun q=>q.2⟩
theorem rcin_tells (a b c : Int) : althingref5_in.f a b c = some (inB a b c):=cin_tells a b c
theorem cap_tells (a n s : Int) : conv_isCapital.f 40 [a,n,s] = some (capOk a n s):=by
 have w1 : wrap64 (0 + 1) = 1:=by unfold wrap64;omega
 have w2 : wrap64 (1 + 1) = 2:=by unfold wrap64;omega
 have w3 : wrap64 (2 + 1) = 3:=by unfold wrap64;omega
 have r0 : rd [a,n,s] 0 = a:=rfl;have r1 : rd [a,n,s] 1 = n:=rfl;have r2 : rd [a,n,s] 2 = s:=rfl;have l3 : (([a,n,s] : List Int).length : Int) = 3:=rfl
 unfold conv_isCapital.f capOk
 rw [l3,conv_isCapital.l0,if_pos (by decide),if_pos (by decide),l3,if_pos (by decide),r0,cin_tells,Option.bind_some]
 by_cases ha : 0 ≤ a ∧ a ≤ 1073741824
 rotate_left
 ·rw [show inB a 0 1073741824 = false from decide_eq_false ha,if_neg (by decide),decide_eq_false ha];simp
 rw [show inB a 0 1073741824 = true from decide_eq_true ha,if_pos rfl,decide_eq_true ha,w1,conv_isCapital.l0,if_pos (by decide),if_pos (by decide),l3,if_pos (by decide),r1,cin_tells,Option.bind_some]
 by_cases hn : 0 ≤ n ∧ n ≤ 1073741824
 rotate_left
 ·rw [show inB n 0 1073741824 = false from decide_eq_false hn,if_neg (by decide),decide_eq_false hn];simp
 rw [show inB n 0 1073741824 = true from decide_eq_true hn,if_pos rfl,decide_eq_true hn,w2,conv_isCapital.l0,if_pos (by decide),if_pos (by decide),l3,if_pos (by decide),r2,cin_tells,Option.bind_some]
 by_cases hs : 0 ≤ s ∧ s ≤ 1073741824
 rotate_left
 ·rw [show inB s 0 1073741824 = false from decide_eq_false hs,if_neg (by decide),decide_eq_false hs];simp
 have e1 : wrap64 (0 + a) = a:=by unfold wrap64;omega
 have e2 : wrap64 (a + n) = a + n:=by unfold wrap64;omega
 have e3 : wrap64 (a + n + s) = a + n + s:=by unfold wrap64;omega
 rw [show inB s 0 1073741824 = true from decide_eq_true hs,if_pos rfl,decide_eq_true hs,w3,conv_isCapital.l0,if_neg (by decide),e1,e2,e3]
 simp
theorem beq_dec (a b : Int) : (a == b) = decide (a = b):=by
 by_cases h : a = b
 ·rw [decide_eq_true h];exact beq_iff_eq.2 h
 rw [decide_eq_false h];exact beq_eq_false_iff_ne.2 h
theorem conv_tells (x : Ext) : conv_Is.f 40 x.vkind x.vaye x.vlevel x.va x.vn x.vs = some (voteOk x):=by
 unfold conv_Is.f voteOk
 rw [cap_tells,Option.bind_some]
 by_cases hc : capOk x.va x.vn x.vs = true
 rotate_left
 ·rw [if_neg hc];simp [hc]
 rw [if_pos hc,hc]
 by_cases h1 : x.vkind = 1
 ·rw [if_pos h1,if_pos h1,cin_tells,Option.bind_some]
  by_cases hl : inB x.vlevel 0 6 = true
  rotate_left
  ·rw [if_neg hl];simp [hl]
  rw [if_pos hl,hl];by_cases hn : x.vn = 0 <;> simp [hn,beq_dec]
 rw [if_neg h1,if_neg h1]
 by_cases h2 : x.vkind = 2
 ·rw [if_pos h2,if_pos h2]
  cases hy : x.vaye <;> by_cases hl : x.vlevel = 0 <;> simp [hl,beq_dec]
 rw [if_neg h2,if_neg h2]
 by_cases h3 : x.vkind = 3
 rotate_left
 ·rw [if_neg h3,if_neg h3];rfl
 rw [if_pos h3,if_pos h3]
 cases hy : x.vaye <;> simp [beq_dec]
theorem rconv_tells (x : Ext) : althingref5_Is.f 40 x.vkind x.vaye x.vlevel x.va x.vn x.vs = some (voteOk x):=by
 have hj : ∀ b : Bool,althingref5_Is.j0 40 b x.vkind x.vaye x.vlevel x.va x.vn x.vs = some (!b && (if x.vkind = 1 then inB x.vlevel 0 6 && decide (x.vn = 0) && decide (x.vs = 0) else if x.vkind = 2 then !x.vaye && decide (x.vlevel = 0) && decide (x.vs = 0) else if x.vkind = 3 then !x.vaye && decide (x.vlevel = 0) else false)):=fun b=>by
  rw [althingref5_Is.j0];cases b
  ·rw [if_neg (by decide)]
   by_cases h1 : x.vkind = 1
   ·rw [if_pos h1,if_pos h1,rcin_tells,Option.bind_some]
    by_cases hl : inB x.vlevel 0 6 = true
    rotate_left
    ·rw [if_neg hl];simp [hl]
    rw [if_pos hl,hl];by_cases hn : x.vn = 0 <;> simp [hn,beq_dec]
   rw [if_neg h1,if_neg h1]
   by_cases h2 : x.vkind = 2
   ·rw [if_pos h2,if_pos h2]
    cases hy : x.vaye <;> by_cases hl : x.vlevel = 0 <;> simp [hl,beq_dec]
   rw [if_neg h2,if_neg h2]
   by_cases h3 : x.vkind = 3
   rotate_left
   ·rw [if_neg h3,if_neg h3];rfl
   rw [if_pos h3,if_pos h3]
   cases hy : x.vaye <;> simp [beq_dec]
  ·rw [if_pos rfl];rfl
 unfold althingref5_Is.f voteOk capOk
 rw [rcin_tells,Option.bind_some]
 by_cases ha : 0 ≤ x.va ∧ x.va ≤ 1073741824
 rotate_left
 ·rw [show inB x.va 0 1073741824 = false from decide_eq_false ha,if_neg (by decide),decide_eq_false ha,hj];simp
 rw [show inB x.va 0 1073741824 = true from decide_eq_true ha,if_pos rfl,rcin_tells,Option.bind_some,decide_eq_true ha]
 by_cases hn : 0 ≤ x.vn ∧ x.vn ≤ 1073741824
 rotate_left
 ·rw [show inB x.vn 0 1073741824 = false from decide_eq_false hn,if_neg (by decide),decide_eq_false hn,hj];simp
 rw [show inB x.vn 0 1073741824 = true from decide_eq_true hn,if_pos rfl,rcin_tells,Option.bind_some,decide_eq_true hn]
 by_cases hs : 0 ≤ x.vs ∧ x.vs ≤ 1073741824
 rotate_left
 ·rw [show inB x.vs 0 1073741824 = false from decide_eq_false hs,if_neg (by decide),decide_eq_false hs,hj];simp
 have e2 : wrap64 (x.va + x.vn) = x.va + x.vn:=by unfold wrap64;omega
 have e3 : wrap64 (x.va + x.vn + x.vs) = x.va + x.vn + x.vs:=by unfold wrap64;omega
 rw [show inB x.vs 0 1073741824 = true from decide_eq_true hs,if_pos rfl,decide_eq_true hs,e2,e3,hj]
 congr 2
 by_cases hb : x.va + x.vn + x.vs ≤ 1073741824
 ·rw [decide_eq_true hb,decide_eq_false (by omega)];rfl
 rw [decide_eq_false hb,decide_eq_true (by omega)];rfl
/-! ### the code's IsExt -/
def callOk (x : Ext) : Bool:=decide (x.kind = 2) || (decide (x.call.f0 = 0) && decide (x.call.f1 = 0) && decide (x.call.f2 = 0) && decide (x.call.f3.length = 0))
def isExtP (x : Ext) : Bool:=okE x (callOk x && sameX (namedX x) x) (voteOk x) (okT 3 x.call)
theorem same_none (c : S25) : sameF 1 z0 c = some (decide (c.f0 = 0) && decide (c.f1 = 0) && decide (c.f2 = 0) && decide (c.f3.length = 0)):=by
 unfold sameF z0
 by_cases h : (0 : Int) = c.f0 ∧ (0 : Int) = c.f1 ∧ (0 : Int) = c.f2 ∧ ([] : List S25).length = c.f3.length
 rotate_left
 ·rw [if_neg h]
  congr 1;symm
  simp only [Bool.and_eq_false_iff,decide_eq_false_iff_not];simp only [List.length_nil] at h
  omega
 rw [if_pos h];obtain ⟨h0,h1,h2,h3⟩:=h;rw [decide_eq_true h0.symm,decide_eq_true h1.symm,decide_eq_true h2.symm,decide_eq_true (show c.f3.length = 0 from h3.symm)]
 cases c.f3 <;> rfl
theorem allM_self {p : S25 → S25 → Option Bool} : ∀ (l : List S25),(∀ x ∈ l,p x x = some true) → allM p l l = some true
 | [],_=>rfl
 | x :: l,h=>by
   rw [allM,h x List.mem_cons_self,Option.bind_some,if_pos rfl];exact allM_self l (fun y hy=>h y (List.mem_cons_of_mem _ hy))
theorem same_self_F : ∀ (f : Nat) (c : S25),Fits f c → sameF f c c = some true
 | 0,_,h=>h.elim
 | f + 1,c,h=>by
   rw [sameF,if_pos ⟨rfl,rfl,rfl,rfl⟩];exact allM_self _ (fun x hx=>same_self_F f x (h.2 x hx))
def namedA (x : Ext) (A : Option Addr) : Option Addr:=if x.kind = 2 then A else none
def namedC (x : Ext) (c : Nat) : Nat:=if x.kind = 2 then c else 0
theorem named_calls (x : Ext) (A : Option Addr) (c : Nat) (hx : x.sum.length = 32) (w : World) :
 Calls Try.prog 33 #[.agg (x.cells A c).toArray] w fun e w'=>e = .returned (.agg ((namedX x).cells (namedA x A) (namedC x c)).toArray) ∧ Below w.heap.size w w':=by
 by_cases hr : 1 ≤ x.kind ∧ x.kind ≤ 11
 rotate_left
 ·have h2 : ¬ x.kind = 2:=by omega
  unfold namedA namedC namedX
  rw [if_neg h2,if_neg h2,if_neg (by omega),if_neg h2,if_neg (by omega),if_neg (by omega),if_neg (by omega),if_neg (by omega),if_neg (by omega),if_neg (by omega)];exact named_no x A c hr hx w
 have hk : x.kind = 1 ∨ x.kind = 2 ∨ x.kind = 3 ∨ x.kind = 4 ∨ x.kind = 5 ∨ x.kind = 6 ∨ x.kind = 7 ∨ x.kind = 8 ∨ x.kind = 9 ∨ x.kind = 10 ∨ x.kind = 11:=by omega
 rcases hk with h | h | h | h | h | h | h | h | h | h | h
 all_goals simp only [namedA,namedC,namedX,h]
 ·exact named_1 x A c h hx w
 ·exact named_2 x A c h hx w
 ·exact named_3 x A c h hx w
 ·exact named_4 x A c h hx w
 ·exact named_5 x A c h hx w
 ·exact named_6 x A c h hx w
 ·exact named_7 x A c h hx w
 ·exact named_8 x A c h hx w
 ·exact named_9 x A c h hx w
 ·exact named_10 x A c h hx w
 ·exact named_11 x A c h hx w
theorem namedX_sum (x : Ext) (hx : x.sum.length = 32) : (namedX x).sum.length = 32:=by
 unfold namedX
 split
 ·exact zs_length
 ·split
  ·exact zs_length
  ·split
   ·exact hx
   ·split
    ·exact hx
    ·repeat' split
     all_goals exact zs_length
theorem namedX_call (x : Ext) : (namedX x).call = if x.kind = 2 then x.call else z0:=by
 by_cases h2 : x.kind = 2
 ·rw [if_pos h2];unfold namedX;rw [if_neg (by omega),if_pos h2]
 rw [if_neg h2];unfold namedX
 repeat' split
 all_goals first | rfl | (exfalso;exact h2 (by assumption))
theorem code_IsExt.all (x : Ext) (A : Option Addr) (c : Nat) (w : World) (hx : x.sum.length = 32) (hC : Kd.C k25 w A x.call.f3.length x.call.f3) (hc : x.call.f3.length ≤ c) :
 Calls Try.prog 14 #[.agg (x.cells A c).toArray] w fun e w'=>e = .returned (.bool (isExtP x)) ∧ Below w.heap.size w w':=by
 have hcall:=namedX_call x;have hsum:=namedX_sum x hx;have hN:=named_calls x A c hx
 by_cases h2 : x.kind = 2
 ·rw [if_pos h2] at hcall;rw [show namedA x A = A from if_pos h2,show namedC x c = c from if_pos h2] at hN;obtain ⟨f,hf⟩:=fits_kids w x.call A hC;have:=isExt_of x (namedX x) A A c c w hx hsum hC hc (by rw [hcall];exact hC) (by rw [hcall];exact hc) hN f true (by rw [hcall];exact same_self_F f _ hf) 40 (voteOk x) (conv_tells x)
  have e : callOk x = true:=by unfold callOk;rw [decide_eq_true h2];rfl
  unfold isExtP
  rw [e];exact this
 rw [if_neg h2] at hcall;rw [show namedA x A = none from if_neg h2,show namedC x c = 0 from if_neg h2] at hN;have:=isExt_of x (namedX x) A none c 0 w hx hsum hC hc (by rw [hcall];exact Kd.C_nil _ _) (by rw [hcall];exact Nat.le_refl _) hN 1 _ (by rw [hcall];exact same_none _) 40 (voteOk x) (conv_tells x)
 have e : callOk x = (decide (x.call.f0 = 0) && decide (x.call.f1 = 0) && decide (x.call.f2 = 0) && decide (x.call.f3.length = 0)):=by unfold callOk;rw [decide_eq_false h2];rfl
 unfold isExtP
 rw [e];exact this
/-! ### the reference's IsExt -/
theorem names_tells (k : Int) (hk : 1 ≤ k ∧ k ≤ 11) : althingref7_names.f 40 k 84 = some (decide (k = 1 ∨ k = 9)) ∧ althingref7_names.f 40 k 78 = some (decide (k = 1 ∨ k = 4 ∨ k = 9)) ∧ althingref7_names.f 40 k 82 = some (decide (k = 5 ∨ k = 6 ∨ k = 7 ∨ k = 8)) ∧
 althingref7_names.f 40 k 75 = some (decide (k = 4 ∨ k = 9 ∨ k = 10 ∨ k = 11)) ∧ althingref7_names.f 40 k 76 = some (decide (k = 9)) ∧ althingref7_names.f 40 k 83 = some (decide (k = 3 ∨ k = 4)) ∧ althingref7_names.f 40 k 86 = some (decide (k = 7)) ∧ althingref7_names.f 40 k 67 = some (decide (k = 2)):=by
 have h : k = 1 ∨ k = 2 ∨ k = 3 ∨ k = 4 ∨ k = 5 ∨ k = 6 ∨ k = 7 ∨ k = 8 ∨ k = 9 ∨ k = 10 ∨ k = 11:=by omega
 rcases h with h | h | h | h | h | h | h | h | h | h | h <;> subst h <;> decide +kernel
theorem num_tells (k ch n m : Int) (b : Bool) (h : althingref7_names.f 40 k ch = some b) : althingref7_num.f 40 k ch n m = some (if b = true then inB n 0 m else decide (n = 0)):=by
 unfold althingref7_num.f
 rw [h,Option.bind_some];cases b
 ·rw [if_neg (by decide),if_neg (by decide),beq_dec]
 ·rw [if_pos rfl,if_pos rfl,rin_tells];rfl
def zeroCall (x : Ext) : Bool:=decide (x.call.f0 = 0) && decide (x.call.f1 = 0) && decide (x.call.f2 = 0) && decide (x.call.f3.length = 0)
def numP (b : Bool) (n m : Int) : Bool:=if b = true then inB n 0 m else decide (n = 0)
def refP (x : Ext) : Bool:=inB x.kind 1 11 && inB x.who 0 9 && refE (numP (decide (x.kind = 1 ∨ x.kind = 9)) x.dest 9) (numP (decide (x.kind = 1 ∨ x.kind = 4 ∨ x.kind = 9)) x.amt (if x.kind = 4 then 1000 else 1073741824)) (numP (decide (x.kind = 5 ∨ x.kind = 6 ∨ x.kind = 7 ∨ x.kind = 8)) x.rfd 11)
 (numP (decide (x.kind = 4 ∨ x.kind = 9 ∨ x.kind = 10 ∨ x.kind = 11)) x.track 3) (numP (decide (x.kind = 9)) x.level 6) (decide (x.kind = 3 ∨ x.kind = 4)) (!(x.sum == zSum)) (decide (x.kind = 7)) (decide (x.vkind ≠ 0)) (voteOk x)
 (!decide (x.vkind = 0 ∧ x.vaye = false ∧ x.vlevel = 0 ∧ x.va = 0 ∧ x.vn = 0 ∧ x.vs = 0)) (decide (x.kind = 2)) (okT 3 x.call) (zeroCall x)
theorem voteOk_zero (x : Ext) (h : x.vkind = 0) : voteOk x = false:=by
 unfold voteOk;rw [if_neg (by omega),if_neg (by omega),if_neg (by omega),Bool.and_false]
set_option maxHeartbeats 4000000 in
theorem ref_is (x : Ext) : refP x = isExtP x:=by
 unfold refP isExtP okE
 by_cases hk : 1 ≤ x.kind ∧ x.kind ≤ 11
 rotate_left
 ·rw [show inB x.kind 1 11 = false from decide_eq_false hk];simp
 rw [show inB x.kind 1 11 = true from decide_eq_true hk,Bool.true_and,Bool.true_and]
 have h : x.kind = 1 ∨ x.kind = 2 ∨ x.kind = 3 ∨ x.kind = 4 ∨ x.kind = 5 ∨ x.kind = 6 ∨ x.kind = 7 ∨ x.kind = 8 ∨ x.kind = 9 ∨ x.kind = 10 ∨ x.kind = 11:=by omega
 have hv:=voteOk_zero x;generalize voteOk x = vo at hv ⊢;generalize okT 3 x.call = co
 rcases h with h | h | h | h | h | h | h | h | h | h | h <;> rw [Bool.eq_iff_iff] <;> simp [refE,numP,inB,callOk,zeroCall,namedX,ext0,sameX,h] <;> grind
set_option maxRecDepth 100000 in
set_option maxHeartbeats 16000000 in
theorem refIsExt_out (x : Ext) (A : Option Addr) (c : Nat) (w : World) (hx : x.sum.length = 32) (bk bw : Bool) (hk : inB x.kind 1 11 = bk) (hw : inB x.who 0 9 = bw) (hb : (bk && bw) = false) :
 Calls Try.prog 13 #[.agg (x.cells A c).toArray] w fun e w'=>e = .returned (.bool false) ∧ Below w.heap.size w w':=by
 obtain ⟨L,hL⟩ : ∃ L,L = x.cells A c:=⟨_,rfl⟩;have EK : Aside0 (althingref7_in.f x.kind 1 11 = some bk):=⟨by rw [rin_tells,← hk];rfl⟩;have EW : Aside0 (althingref7_in.f x.who 0 9 = some bw):=⟨by rw [rin_tells,← hw];rfl⟩;have HL:=am hL;rw [← hL];clear hL hk hw
 cases bk with
 | false=>
   go_enter Try.func13,Try.ntmps13
   go_upto_region 1 with (first
    | ((with_reducible refine gate_dst (N:=1) rfl ?_);refine box_event ?hg (N:=1) ?hd (cs:=L.toArray) (t:=33) ?hr ?_;(case hd=>rfl);(case hg=>rfl);(case hr=>first | (go_simp;done) | (go_simp;rfl));intro g1 hg1 w1 hbox1 hb1;have hR0:=rangeAt_box hbox1;have HB1:=am hb1;clear hg1 hbox1 hb1))
   obtain ⟨c0,c1,c2,c3,c4,c5,c6⟩:=x.at_head A c (HL.out ▸ hR0)
   go_wp2_with (go_at_call 28;with_reducible refine (althingref7_in.calls _ _ _ _ _ EK.out).mono ?_;rintro e u0 ⟨rfl,hd_⟩;have HB2:=am (below_step HB1.out hd_.below);clear hd_)
   all_goals go_ret
   all_goals exact ⟨rfl,HB2.out⟩
 | true=>
   cases bw with
   | true=>cases hb
   | false=>
     go_enter Try.func13,Try.ntmps13
     go_upto_region 1 with (first
      | ((with_reducible refine gate_dst (N:=1) rfl ?_);refine box_event ?hg (N:=1) ?hd (cs:=L.toArray) (t:=33) ?hr ?_;(case hd=>rfl);(case hg=>rfl);(case hr=>first | (go_simp;done) | (go_simp;rfl));intro g1 hg1 w1 hbox1 hb1;have hR0:=rangeAt_box hbox1;have hZ0:=blk_lt hbox1;have HB1:=am hb1;clear hg1 hbox1 hb1))
     obtain ⟨c0,c1,c2,c3,c4,c5,c6⟩:=x.at_head A c (HL.out ▸ hR0)
     go_wp2_with (first
      | (go_at_call 28;with_reducible refine (althingref7_in.calls _ _ _ _ _ EK.out).mono ?_;rintro e u0 ⟨rfl,hd_⟩;have HB2:=am (below_step HB1.out hd_.below);obtain ⟨c0,c1,c2,c3,c4,c5,c6⟩:=x.at_head A c (HL.out ▸ (rangeAt_below hR0 hd_.below hZ0));clear hd_)
      | (go_at_call 28;with_reducible refine (althingref7_in.calls _ _ _ _ _ EW.out).mono ?_;rintro e u1 ⟨rfl,hd_⟩;have HB3:=am (below_step HB2.out hd_.below);clear hd_))
     all_goals go_ret
     all_goals exact ⟨rfl,HB3.out⟩
theorem althingref7_IsExt.all (x : Ext) (A : Option Addr) (c : Nat) (w : World) (hx : x.sum.length = 32) (hC : Kd.C k25 w A x.call.f3.length x.call.f3) (hc : x.call.f3.length ≤ c) :
 Calls Try.prog 13 #[.agg (x.cells A c).toArray] w fun e w'=>e = .returned (.bool (isExtP x)) ∧ Below w.heap.size w w':=by
 rw [← ref_is]
 by_cases hk : 1 ≤ x.kind ∧ x.kind ≤ 11
 rotate_left
 ·have e1 : inB x.kind 1 11 = false:=decide_eq_false hk;have:=refIsExt_out x A c w hx _ _ e1 rfl (Bool.false_and _)
  unfold refP
  rw [e1,Bool.false_and,Bool.false_and];exact this
 by_cases hw : 0 ≤ x.who ∧ x.who ≤ 9
 rotate_left
 ·have e2 : inB x.who 0 9 = false:=decide_eq_false hw;have:=refIsExt_out x A c w hx _ _ rfl e2 (Bool.and_false _)
  unfold refP
  rw [e2,Bool.and_false,Bool.false_and];exact this
 obtain ⟨nT,nN,nR,nK,nL,nS,nV,nC⟩:=names_tells x.kind hk;have:=refIsExt_walk x A c w hx hC hc hk hw _ rfl _ _ _ _ _ _ _ _ _ _ _ _ (num_tells _ _ _ _ _ nT) (num_tells _ _ _ _ _ nN) (num_tells _ _ _ _ _ nR) (num_tells _ _ _ _ _ nK) (num_tells _ _ _ _ _ nL) nS rfl nV (rconv_tells x) rfl nC (risCall_tells x.call 40 (by omega));have e1 : inB x.kind 1 11 = true:=decide_eq_true hk;have e2 : inB x.who 0 9 = true:=decide_eq_true hw
 unfold refP
 rw [e1,e2];exact this
end Go.Proofs.Ytilckocpgififaa.G
/- Extrinsics as bytes, plainly: how they are told, what is read off bytes; that what was told is read as it was, and nothing else is read. -/
namespace Go.Proofs.Ytilckocpgififaa.G
open Go.Extern.Stop (cell)
open Go.RowKit Go.Shelf Go.Proofs.YtilckocpgififaaW.PrintWords Go.Proofs.YtilckocpgififaaW.PrintMore Go.Proofs.Ytilckocpgififaa.PNum
set_option linter.unusedVariables false
set_option linter.unusedSimpArgs false
/-! ### how an extrinsic is told -/
def headE (x : Ext) : List Int:=[x.kind,x.who,x.dest,x.amt,x.rfd,x.track,x.level]
def flagI (b : Bool) : Int:=if b = true then 1 else 0
def voteE (x : Ext) : List Int:=[x.vkind,x.va,x.vn,x.vs,x.vlevel,flagI x.vaye]
def sumI (s : List UInt8) : List Int:=s.map fun b=>(b.toNat : Int)
def callB (x : Ext) : List Int:=if x.call.f0 = 0 then [] else encC 3 x.call
def encE (x : Ext) : List Int:=numsB (headE x) ++ (sumI x.sum ++ (numsB (voteE x) ++ rowB (callB x)))
theorem sumI_length (s : List UInt8) : (sumI s).length = s.length:=List.length_map ..
theorem sumI_bytes (s : List UInt8) : IsBytes (sumI s):=by
 intro c hc;obtain ⟨b,_,rfl⟩:=List.mem_map.1 hc;have:=b.toNat_lt
 omega
theorem encE_bytes (x : Ext) : IsBytes (encE x):=by
 unfold encE
 refine (numsB_bytes _).append ((sumI_bytes _).append ((numsB_bytes _).append (rowB_bytes ?_)))
 unfold callB
 split
 ·intro c hc;cases hc
 ·exact encC_bytes 3 _
/-! ### several numbers -/
def numsP : Nat → List Int → List Int × List Int × Bool
 | 0,l=>([],l,true)
 | n + 1,l=>(valT l :: (numsP n (restT l)).1,(numsP n (restT l)).2.1,okN l && (numsP n (restT l)).2.2)
theorem numsP_put : ∀ (ns t : List Int),(∀ n ∈ ns,Small n) → numsP ns.length (numsB ns ++ t) = (ns,t,true)
 | [],t,_=>rfl
 | n :: ns,t,h=>by
   have e : numsB (n :: ns) ++ t = numB n ++ (numsB ns ++ t):=by simp [numsB]
   have hn:=h n (by simp);rw [e,List.length_cons,numsP,valT_put hn,restT_put hn,okN_put hn,numsP_put ns t (fun m hm=>h m (by simp [hm]))]
   rfl
theorem numsP_tells : ∀ (n : Nat) (l : List Int),IsBytes l → (numsP n l).2.2 = true → l = numsB (numsP n l).1 ++ (numsP n l).2.1 ∧ (numsP n l).1.length = n ∧ ∀ m ∈ (numsP n l).1,Small m
 | 0,l,_,_=>⟨rfl,rfl,fun m hm=>by cases hm⟩
 | n + 1,l,hl,h=>by
   rw [numsP] at h;simp only [Bool.and_eq_true] at h;obtain ⟨hs,he⟩:=numT_tells hl h.1;obtain ⟨h1,h2,h3⟩:=numsP_tells n (restT l) (restT_bytes hl) h.2;refine ⟨?_,by rw [numsP];simp [h2],fun m hm=>?_⟩
   ·rw [numsP]
    have e : numsB (valT l :: (numsP n (restT l)).1) ++ (numsP n (restT l)).2.1 = numB (valT l) ++ (numsB (numsP n (restT l)).1 ++ (numsP n (restT l)).2.1):=by simp [numsB]
    show l = numsB (valT l :: (numsP n (restT l)).1) ++ (numsP n (restT l)).2.1
    rw [e,← h1,← he]
   ·rw [numsP] at hm
    rcases List.mem_cons.1 hm with rfl | hm
    ·exact hs
    ·exact h3 m hm
theorem numsP_length : ∀ (n : Nat) (l : List Int),(numsP n l).1.length = n
 | 0,_=>rfl
 | n + 1,l=>by rw [numsP,List.length_cons,numsP_length n]
theorem numsP_bytes : ∀ (n : Nat) (l : List Int),IsBytes l → IsBytes (numsP n l).2.1
 | 0,l,h=>h
 | n + 1,l,h=>by rw [numsP];exact numsP_bytes n _ (restT_bytes h)
/-! ### what is read off bytes -/
structure RawE where
 head : List Int
 sum : List Int
 vote : List Int
 row : List Int
def partsE (l : List Int) : RawE × Bool:=
 let h:=numsP 7 l
 let v:=numsP 6 (h.2.1.drop 32)
 let p:=rowT v.2.1
 (⟨h.1,h.2.1.take 32,v.1,p.1⟩,(((h.2.2 && decide (32 ≤ h.2.1.length)) && v.2.2) && p.2.2) && decide ((v.2.1.drop p.2.1).length = 0))
def callD (p : List Int) : Option S25:=if p.length > 0 then decF p else some z25
def at0 (l : List Int) (i : Nat) : Int:=l.getD i 0
def bytesU (l : List Int) : List UInt8:=l.map fun c=>UInt8.ofNat c.toNat
def toE (r : RawE) (c : S25) : Ext:=⟨at0 r.head 0,at0 r.head 1,at0 r.head 2,at0 r.head 3,at0 r.head 4,at0 r.head 5,at0 r.head 6,bytesU r.sum,at0 r.vote 0,decide (at0 r.vote 5 = 1),at0 r.vote 4,at0 r.vote 1,at0 r.vote 2,at0 r.vote 3,c⟩
def okR (r : RawE) (ok : Bool) : Bool:=ok && decide (at0 r.vote 5 ≤ 1)
def decE (l : List Int) : Option Ext:=
 if okR (partsE l).1 (partsE l).2 = true then
  match callD (partsE l).1.row with
  | some c=>if isExtP (toE (partsE l).1 c) = true then some (toE (partsE l).1 c) else none
  | none=>none
 else none
theorem bytesU_sumI (s : List UInt8) : bytesU (sumI s) = s:=by
 unfold bytesU sumI
 rw [List.map_map]
 conv=>rhs;rw [← List.map_id s]
 refine List.map_congr_left (fun b _=>?_)
 show UInt8.ofNat ((b.toNat : Int)).toNat = b
 rw [Int.toNat_natCast];exact UInt8.ofNat_toNat
theorem sumI_bytesU {l : List Int} (h : IsBytes l) : sumI (bytesU l) = l:=by
 unfold bytesU sumI
 rw [List.map_map]
 conv=>rhs;rw [← List.map_id l]
 refine List.map_congr_left (fun c hc=>?_);obtain ⟨h0,h1⟩:=h c hc
 show (((UInt8.ofNat c.toNat).toNat : Nat) : Int) = c
 have hlt : c.toNat < 256:=by omega
 simp [UInt8.toNat_ofNat',Nat.mod_eq_of_lt hlt]
 omega
/-! ### an extrinsic that may be, as numbers -/
theorem inB_small {a hi : Int} (hh : hi ≤ 4611686018427387904) (h : inB a 0 hi = true) : Small a:=by
 have:=of_decide_eq_true h;exact ⟨this.1,by omega⟩
theorem isExt_head {x : Ext} (h : isExtP x = true) : ∀ n ∈ headE x,Small n:=by
 unfold isExtP okE at h
 simp only [Bool.and_eq_true] at h;obtain ⟨⟨⟨⟨⟨⟨⟨⟨⟨hk,_⟩,hw⟩,hd⟩,ha⟩,hr⟩,ht⟩,hl⟩,_⟩,_⟩:=h;have hk':=of_decide_eq_true hk;intro n hn;simp only [headE,List.mem_cons,List.not_mem_nil,or_false] at hn
 rcases hn with rfl | rfl | rfl | rfl | rfl | rfl | rfl
 ·exact ⟨by omega,by omega⟩
 ·exact inB_small (by decide) hw
 ·exact inB_small (by decide) hd
 ·refine inB_small ?_ ha;split <;> decide
 ·exact inB_small (by decide) hr
 ·exact inB_small (by decide) ht
 ·exact inB_small (by decide) hl
theorem small_le {n m : Int} (h : 0 ≤ n ∧ n ≤ m) (hm : m ≤ 4611686018427387904) : Small n:=⟨h.1,by omega⟩
theorem isExt_vote {x : Ext} (h : isExtP x = true) : ∀ n ∈ voteE x,Small n:=by
 have hf : Small (flagI x.vaye):=by unfold flagI;split <;> exact ⟨by omega,by omega⟩
 unfold isExtP okE at h
 simp only [Bool.and_eq_true] at h;obtain ⟨⟨⟨⟨⟨⟨⟨⟨⟨_,hs⟩,_⟩,_⟩,_⟩,_⟩,_⟩,_⟩,hv⟩,_⟩:=h
 have key : Small x.vkind ∧ Small x.va ∧ Small x.vn ∧ Small x.vs ∧ Small x.vlevel:=by
  by_cases h7 : x.kind = 7
  rotate_left
  ·have hn : (namedX x).vkind = 0 ∧ (namedX x).vlevel = 0 ∧ (namedX x).va = 0 ∧ (namedX x).vn = 0 ∧ (namedX x).vs = 0:=by
    unfold namedX
    rw [if_neg h7]
    repeat' split
    all_goals exact ⟨rfl,rfl,rfl,rfl,rfl⟩
   unfold sameX at hs
   simp only [Bool.and_eq_true,decide_eq_true_eq] at hs;obtain ⟨e1,_,e3,e4,e5,e6⟩:=hs.2.2;exact ⟨⟨by omega,by omega⟩,⟨by omega,by omega⟩,⟨by omega,by omega⟩,⟨by omega,by omega⟩,⟨by omega,by omega⟩⟩
  have hv' : voteOk x = true:=by simpa [h7] using hv
  unfold voteOk capOk at hv'
  simp only [Bool.and_eq_true,decide_eq_true_eq] at hv';obtain ⟨⟨⟨⟨ha,hn⟩,hs'⟩,_⟩,hr⟩:=hv';refine ⟨?_,small_le ha (by decide),small_le hn (by decide),small_le hs' (by decide),?_⟩
  ·by_cases h1 : x.vkind = 1
   ·exact ⟨by omega,by omega⟩
   ·by_cases h2 : x.vkind = 2
    ·exact ⟨by omega,by omega⟩
    ·by_cases h3 : x.vkind = 3
     ·exact ⟨by omega,by omega⟩
     ·rw [if_neg h1,if_neg h2,if_neg h3] at hr;cases hr
  ·by_cases h1 : x.vkind = 1
   ·rw [if_pos h1] at hr;simp only [Bool.and_eq_true] at hr;exact inB_small (by decide) hr.1.1
   ·rw [if_neg h1] at hr
    have h0 : x.vlevel = 0:=by
     by_cases h2 : x.vkind = 2
     ·rw [if_pos h2] at hr;simp only [Bool.and_eq_true,decide_eq_true_eq] at hr;exact hr.1.2
     rw [if_neg h2] at hr
     by_cases h3 : x.vkind = 3
     rotate_left
     ·rw [if_neg h3] at hr;cases hr
     rw [if_pos h3] at hr;simp only [Bool.and_eq_true,decide_eq_true_eq] at hr;exact hr.2
    exact ⟨by omega,by omega⟩
 obtain ⟨k1,k2,k3,k4,k5⟩:=key;intro n hn;simp only [voteE,List.mem_cons,List.not_mem_nil,or_false] at hn
 rcases hn with rfl | rfl | rfl | rfl | rfl | rfl <;> assumption
theorem okT_nonzero {c : S25} (h : okT 3 c = true) : c.f0 ≠ 0:=by
 intro e
 unfold okT okC leafOk at h
 rw [e] at h
 simp at h
theorem call_ext (c d : S25) (h0 : c.f0 = d.f0) (h1 : c.f1 = d.f1) (h2 : c.f2 = d.f2) (h3 : c.f3 = d.f3) : c = d:=by
 rw [← call_eta c,← call_eta d,h0,h1,h2,h3]
theorem isExt_call {x : Ext} (h : isExtP x = true) : okT 3 x.call = true ∨ x.call = z25:=by
 unfold isExtP okE at h
 simp only [Bool.and_eq_true] at h;obtain ⟨⟨⟨⟨⟨⟨⟨⟨⟨_,hs⟩,_⟩,_⟩,_⟩,_⟩,_⟩,_⟩,_⟩,hc⟩:=h
 by_cases h2 : x.kind = 2
 ·left;simpa [h2] using hc
 right
 have:=hs.1
 unfold callOk at this
 rw [decide_eq_false h2] at this;simp only [Bool.false_or,Bool.and_eq_true,decide_eq_true_eq] at this;exact call_ext _ _ this.1.1.1 this.1.1.2 this.1.2 (List.eq_nil_of_length_eq_zero this.2)
/-! ### what was told is read as it was -/
theorem callB_le {x : Ext} (h : isExtP x = true) : (callB x).length ≤ 4611686018427387904:=by
 unfold callB
 split
 ·exact Nat.zero_le _
 ·rename_i h0
  rcases isExt_call h with h1 | h1
  ·have:=encC_most 3 x.call h1;have:=mostC_small (f:=3) (by decide);omega
  ·rw [h1] at h0;exact absurd rfl h0
theorem decF_put {c : S25} (h : okT 3 c = true) : decF (encC 3 c) = some c:=by
 unfold decF
 rw [taken_put 3 c (by decide) h];exact if_pos h
theorem encC_ne {c : S25} (h : okT 3 c = true) : 0 < (encC 3 c).length:=by
 rw [encC,List.length_append]
 have e : numsB [c.f0,c.f1,c.f2,(c.f3.length : Int)] = numB c.f0 ++ numsB [c.f1,c.f2,(c.f3.length : Int)]:=by simp [numsB]
 have:=sizeN_range c.f0;rw [e,List.length_append,numB_length]
 omega
theorem callD_put {x : Ext} (h : isExtP x = true) : callD (callB x) = some x.call:=by
 unfold callD callB
 rcases isExt_call h with h1 | h1
 ·rw [if_neg (okT_nonzero h1),if_pos (encC_ne h1),decF_put h1]
 ·have e0 : x.call.f0 = 0:=by rw [h1];rfl
  rw [if_pos e0,if_neg (by simp),h1]
theorem flag_one (b : Bool) : decide (flagI b = 1) = b:=by cases b <;> rfl
theorem parts_put {x : Ext} (h : isExtP x = true) (hx : x.sum.length = 32) (t : List Int) : partsE (encE x ++ t) = (⟨headE x,sumI x.sum,voteE x,callB x⟩,decide (t.length = 0)):=by
 have e : encE x ++ t = numsB (headE x) ++ (sumI x.sum ++ (numsB (voteE x) ++ (rowB (callB x) ++ t))):=by unfold encE;simp only [List.append_assoc]
 have h7:=numsP_put (headE x) (sumI x.sum ++ (numsB (voteE x) ++ (rowB (callB x) ++ t))) (isExt_head h);have h6:=numsP_put (voteE x) (rowB (callB x) ++ t) (isExt_vote h);have hr:=rowT_put (callB x) t (callB_le h)
 have hs : (sumI x.sum).length = 32:=by rw [sumI_length,hx]
 rw [show (headE x).length = 7 from rfl] at h7;rw [show (voteE x).length = 6 from rfl] at h6;have t32 : (sumI x.sum ++ (numsB (voteE x) ++ (rowB (callB x) ++ t))).take 32 = sumI x.sum:=List.take_left' hs;have d32 : (sumI x.sum ++ (numsB (voteE x) ++ (rowB (callB x) ++ t))).drop 32 = numsB (voteE x) ++ (rowB (callB x) ++ t):=List.drop_left' hs;have l32 : decide (32 ≤ (sumI x.sum ++ (numsB (voteE x) ++ (rowB (callB x) ++ t))).length) = true:=decide_eq_true (by rw [List.length_append];omega);have dr : (rowB (callB x) ++ t).drop (rowB (callB x)).length = t:=List.drop_left' rfl
 unfold partsE
 rw [e,h7]
 dsimp only
 rw [d32,t32,l32,h6]
 dsimp only
 rw [hr]
 dsimp only
 rw [dr]
 rfl
theorem toE_put {x : Ext} : toE ⟨headE x,sumI x.sum,voteE x,callB x⟩ x.call = x:=by
 have e:=flag_one x.vaye;cases x
 unfold toE
 simp only [bytesU_sumI];simp only [at0,headE,voteE,List.getD_cons_zero,List.getD_cons_succ] at e ⊢;rw [e]
theorem decE_put {x : Ext} (h : isExtP x = true) (hx : x.sum.length = 32) : decE (encE x) = some x:=by
 have hp:=parts_put h hx [];rw [List.append_nil] at hp
 unfold decE
 rw [hp]
 have hok : okR ⟨headE x,sumI x.sum,voteE x,callB x⟩ (decide (([] : List Int).length = 0)) = true:=by
  have hf : flagI x.vaye ≤ 1:=by unfold flagI;split <;> omega
  unfold okR
  rw [Bool.and_eq_true];exact ⟨rfl,decide_eq_true hf⟩
 rw [if_pos hok]
 dsimp only
 rw [callD_put h]
 dsimp only
 rw [toE_put,if_pos h]
/-! ### what is read was told so -/
theorem parts_tells {l : List Int} (hl : IsBytes l) (h : (partsE l).2 = true) :
 l = numsB (partsE l).1.head ++ ((partsE l).1.sum ++ (numsB (partsE l).1.vote ++ rowB (partsE l).1.row)) ∧ (partsE l).1.sum.length = 32 ∧ IsBytes (partsE l).1.sum ∧ IsBytes (partsE l).1.row ∧ (∀ n ∈ (partsE l).1.head,Small n) ∧ (∀ n ∈ (partsE l).1.vote,Small n):=by
 unfold partsE at h ⊢
 dsimp only at h ⊢
 simp only [Bool.and_eq_true,decide_eq_true_eq] at h;obtain ⟨⟨⟨⟨h1,h2⟩,h3⟩,h4⟩,h5⟩:=h;obtain ⟨e1,_,s1⟩:=numsP_tells 7 l hl h1;have b1:=numsP_bytes 7 l hl;obtain ⟨e2,_,s2⟩:=numsP_tells 6 ((numsP 7 l).2.1.drop 32) (b1.drop 32) h3;have b2:=numsP_bytes 6 _ (b1.drop 32);have e3:=rowT_tells b2 h4;have h5':=List.eq_nil_of_length_eq_zero h5;rw [h5',List.append_nil] at e3;refine ⟨?_,by rw [List.length_take];omega,b1.take 32,(rowT_size b2).2.2,s1,s2⟩;rw [← e3,← e2,List.take_append_drop,← e1]
theorem parts_row (l : List Int) : (partsE l).1.row = (rowT (numsP 6 ((numsP 7 l).2.1.drop 32)).2.1).1:=by unfold partsE;dsimp only
end Go.Proofs.Ytilckocpgififaa.G
/- What the walk of (*code.reader).raw needs: bytes are copied into an array. -/
namespace Go.Proofs.Ytilckocpgififaa.G
open Go.RowKit Go.Shelf Go.Proofs.YtilckocpgififaaW.PrintWords Go.Proofs.YtilckocpgififaaW.PrintLast Go.Proofs.YtilckocpgififaaW.PrintMore Go.Proofs.Ytilckocpgififaa.PNum
set_option linter.unusedVariables false
set_option linter.unusedSimpArgs false
theorem wp_run {P : Program} {o : Oper} {a : Act} {w w1 : World} {K : Act → World → Prop} {Q : Exit → Act → World → Prop} {v : Value} (h : (execOp a.eval o).run P w = .ok (.value v) w1) (hk : K (a.put o.dst v) w1) : o.wp P a w K Q:=by
 unfold Oper.wp
 rw [h];exact hk
theorem copy_runO {P : Program} {o : Oper} {a : Act} {w w' : World} (d s : Operand) (t t' : TypeId)
 (ho : o.op = .call { callee:= .builtin .copy,args:=#[d,s],argTypes:=#[t,t'] }) (v u : Value) (hd : a.eval d = v) (hs : a.eval s = u) {v' : Value}
 (hr : (Builtin.copy_ #[t,t'] o.type #[v,u]).run P w = .ok v' w') : (execOp a.eval o).run P w = .ok (.value v') w':=by
 unfold execOp
 simp only [ho,resolve,invoke,builtin,Sem.run_bind,Sem.run_pure,Result.andThen_ok,List.map_toArray,List.map_cons,List.map_nil,hd,hs,hr]
theorem C_u8 {w : World} {A : Option Addr} {l : List Int} (h : Kd.C (Kd.int .u8) w A l.length l) (h0 : 0 < l.length) : ∃ ad,A = some ad ∧ ∀ (j : Nat) (x : Int),l[j]? = some x → w.cell? (ad.add j) = some (.int .u8 x):=by
 obtain ⟨ad,e,hc⟩:=h.2.2 h0;refine ⟨ad,e,fun j x hj=>?_⟩;obtain ⟨cc,hl,hr,hcell⟩:=hc j x hj;obtain rfl : cc = [.int .u8 x]:=hr;have:=hcell 0 (.int .u8 x) rfl;have e1 : (Kd.int IntKind.u8).sz = 1:=rfl;rwa [e1,Nat.mul_one,Nat.add_zero] at this
def u8s (l : List Int) : List Value:=l.map (Value.int .u8)
set_option maxRecDepth 10000 in
theorem copy_bytes {w : World} {A : Option Addr} {l : List Int} {c g o n cp ty : Nat} {L : List Value} (hC : Kd.C (Kd.int .u8) w A l.length l) (hL : Lies w g L) (ho : o + n ≤ L.length) :
 (Builtin.copy_ #[38,38] ty #[.slice (some ⟨g,o,none⟩) n cp,.slice A l.length c]).run Try.prog w = .ok (.int .i64 ((l.take n).length : Int)) (w.setCells g o (u8s (l.take n))):=by
 have hsz : (Try.prog.info? 5).map (·.size) = some 1:=by kernel_rfl
 have hm : (l.take n).length = Nat.min l.length n:=by rw [List.length_take,Nat.min_comm]
 by_cases h0 : Nat.min l.length n = 0
 ·have e : l.take n = []:=List.eq_nil_of_length_eq_zero (by rw [hm,h0]);rw [e];exact run_copy_none w _ _ ty _ _ A n cp l.length c Try.underlying38 hsz h0
 have hl0 : 0 < l.length:=by
  rcases Nat.eq_zero_or_pos l.length with e | e
  ·rw [e] at h0;exact absurd (Nat.zero_min n) h0
  ·exact e
 obtain ⟨ad,rfl,hcell⟩:=C_u8 hC hl0;have hlu : (u8s (l.take n)).length = (l.take n).length:=List.length_map ..;have hln : (l.take n).length ≤ n:=List.length_take_le n l
 have:=run_copy_cells (P:=Try.prog) w 38 38 ty 5 g o n cp ad l.length c (u8s (l.take n)) Try.underlying38 hsz (by rw [hlu,hm])
  (fun j v hj=>by
   unfold u8s at hj
   rw [List.getElem?_map] at hj
   cases e : (l.take n)[j]? with
   | none=>rw [e] at hj;cases hj
   | some x=>
     rw [e] at hj;have hj':=Option.some.inj hj;rw [← hj'];refine hcell j x ?_
     have hjlt : j < n:=by
      have:=List.getElem?_eq_some_iff.1 e;obtain ⟨h1,_⟩:=this
      omega
     rwa [List.getElem?_take_of_lt hjlt] at e)
  (fun j hj=>by
   have:=(hL.there (o + j) (by omega)).1
   rwa [Nat.zero_add] at this)
  (fun j hj=>by
   have:=(hL.there (o + j) (by omega)).2
   rwa [Nat.zero_add] at this)
  (fun v hv=>by
   obtain ⟨x,_,rfl⟩:=List.mem_map.1 hv
   rfl)
 rw [hlu] at this;exact this
theorem drop_min (l : List Int) (n : Nat) : l.drop (l.take n).length = l.drop n:=by
 rw [List.length_take]
 by_cases h : n ≤ l.length
 ·rw [Nat.min_eq_left h]
 rw [Nat.min_eq_right (by omega),List.drop_length,List.drop_eq_nil_of_le (by omega)]
theorem ReadAt.splice {B : Nat} {w : World} {R g1 g2 : Nat} {A : Option Addr} {c : Nat} {l : List Int} {ok : Bool} {L1 L2 : List Value} (h : ReadAt B w R g1 g2 A c l ok L1 L2) (o : Nat) (vs : List Value) (ho : o + vs.length ≤ L1.length) :
 ReadAt B (w.setCells g1 o vs) R g1 g2 A c l ok (L1.take o ++ vs ++ L1.drop (o + vs.length)) L2:=
 { h with reader:=h.reader.splice_far h.r1.symm o vs,row:=C_stays h.row (fun ad e hn=>setCells_far (fun q=>by have:=h.far ad e hn;have:=h.at1;omega) vs o w),one:=h.one.splice o vs ho,two:=h.two.splice_far h.g12.symm o vs,p1:=by have:=h.p1;simp;omega }
theorem Kept.splice {bad : Nat → Prop} {w w' : World} (h : Kept bad w w') {g : Nat} (hg : bad g) (o : Nat) (vs : List Value) : Kept bad w (w'.setCells g o vs):=
 h.step ((kept_setCells g o vs w').mono (fun k e=>by rw [show k = g from e];exact hg))
end Go.Proofs.Ytilckocpgififaa.G
/- What the walks of EncodeExt need: rows that lie in a block, an append of bytes as one step. -/
namespace Go.Proofs.Ytilckocpgififaa.G
open Go.Extern.Stop (cell)
open Go.RowKit Go.Shelf Go.Proofs.YtilckocpgififaaW.PrintWords Go.Proofs.YtilckocpgififaaW.PrintLast Go.Proofs.YtilckocpgififaaW.PrintMore Go.Proofs.Ytilckocpgififaa.PNum
set_option linter.unusedVariables false
set_option linter.unusedSimpArgs false
theorem addr_off (b o j : Nat) : (⟨b,o,none⟩ : Addr).add j = ⟨b,o + j,none⟩:=by unfold Addr.add;split <;> simp_all
theorem C_range {k : IntKind} {w : World} {g o : Nat} {l : List Int} (h : w.rangeAt g o (l.map (Value.int k))) (hl : l.length ≤ 1000000) : Kd.C (Kd.int k) w (some ⟨g,o,none⟩) l.length l:=
 ⟨rfl,by omega,fun _=>⟨⟨g,o,none⟩,rfl,fun j p hj=>⟨[.int k p],rfl,rfl,fun i u hu=>by
  match i,hu with
  | 0,hu=>
    obtain rfl : Value.int k p = u:=by simpa using hu
    have:=h j (.int k p) (by rw [List.getElem?_map,hj];rfl);have e1 : (Kd.int k).sz = 1:=rfl;rw [e1,Nat.mul_one,Nat.add_zero,addr_off]
    exact this⟩⟩⟩
theorem C_one {w : World} {A : Option Addr} {b : List Int} {c g t : Nat} (hC : Kd.C (Kd.int .u8) w A b.length b) (hc : b.length ≤ c) (hg : w.heap[g]? = some (.cells #[.slice A b.length c] t (0,0))) : Kd.C (Kd.slice 5 (Kd.int .u8)) w (some ⟨g,0,none⟩) [b].length [b]:=
 ⟨rfl,by simp,fun _=>⟨⟨g,0,none⟩,rfl,fun j p hj=>by
  match j,hj with
  | 0,hj=>
    obtain rfl : b = p:=by simpa using hj
    refine ⟨[.slice A b.length c],rfl,⟨A,c,rfl,hc,hC⟩,fun i u hu=>?_⟩
    match i,hu with
    | 0,hu=>
      obtain rfl : Value.slice A b.length c = u:=by simpa using hu
      have h0 : (Lies w g [Value.slice A b.length c]):=Lies.box hg
      exact h0.cell (i:=0) rfl⟩⟩
theorem slice_step {P : Program} {o : Oper} {a : Act} {W : World} {Kc : Act → World → Prop} {Q : Exit → Act → World → Prop} {cs : Array Value} {t : TypeId} {n c : Nat}
 (hrun : (execOp a.eval o).run P W = .ok (.value (.slice (some ⟨W.heap.size,0,none⟩) n c)) (W.alloc (.cells cs t (0,0))))
 (h : ∀ g,g = W.heap.size → ∀ w1,w1.heap[g]? = some (.cells cs t (0,0)) → Below W.heap.size W w1 → Kc (a.put o.dst (.slice (some ⟨g,0,none⟩) n c)) w1) : o.wp P a W Kc Q:=
 wp_run hrun (h _ rfl _ (blk_new W _) (below_alloc (Below.refl _ _) _))
theorem sum_cells (s : List UInt8) : s.map cell = (sumI s).map (Value.int .u8):=by
 unfold sumI
 rw [List.map_map];exact List.map_congr_left (fun b _=>rfl)
theorem C_sum (x : Ext) (A : Option Addr) (c : Nat) (hx : x.sum.length = 32) {w : World} {g : Nat} (h : w.rangeAt g 0 (x.cells A c)) : Kd.C (Kd.int .u8) w (some ⟨g,7,none⟩) 32 (sumI x.sum):=by
 have h7:=x.at_sum A c h;rw [sum_cells] at h7;have:=C_range h7 (by rw [sumI_length,hx];decide);rwa [sumI_length,hx] at this
theorem info_u8z : (Try.prog.info? 5).map (fun i=>(i.zero,i.size,i.bytes)) = some (some (.int .u8 0),1,1):=by kernel_rfl
theorem C_head {w : World} {g t : Nat} {ns : List Int} (h : w.heap[g]? = some (.cells (ns.map (Value.int .i64)).toArray t (0,0))) (hl : ns.length ≤ 1000000) : Kd.C (Kd.int .i64) w (some ⟨g,0,none⟩) ns.length ns:=
 C_range (Lies.box h).range hl
def errE (b : Bool) : Int:=if b = true then 0 else 1
def bytesE (x : Ext) : List Int:=if isExtP x = true then encE x else []
end Go.Proofs.Ytilckocpgififaa.G
/- code.EncodeExt: an extrinsic as bytes, or refused (laid by mkencext.py). -/
namespace Go.Proofs.Ytilckocpgififaa.G
open Go.Extern.Stop (cell)
open Go.RowKit Go.Shelf Go.Proofs.YtilckocpgififaaW.PrintWords Go.Proofs.YtilckocpgififaaW.PrintLast Go.Proofs.YtilckocpgififaaW.PrintMore Go.Proofs.Ytilckocpgififaa.PNum
set_option linter.unusedVariables false
set_option linter.unusedSimpArgs false
def encExt_r3.T : Bool × List (List Nat × List Nat):=(true,[([],[]),([0],[0]),([],[]),([2],[2]),([],[]),([4],[4]),([],[]),([6],[6]),([],[]),([8],[8]),([],[]),([10],[10]),([],[]),([12],[12]),([1,3,5,7,9,11,13],[1,3,5,7,9,11,13]),([14],[14]),([],[]),([16],[16]),([15,17,15],[15,17]),([18,18,0,1,2,3,4,5,6,7,8,9,10,11,12,13,14,15,16,17,18],[18])])
def encExt_r3.B : List Nat:=[0,1,0,4,0,16,0,64,0,256,0,1024,0,4096,16383,32767,0,65536,262143,524287]
theorem encExt_r3.tab : rtab .any (opsOf Try.f19 3) = encExt_r3.T:=by kernel_rfl
theorem encExt_r3.bits : waitsOk encExt_r3.T.2 encExt_r3.B = true:=by kernel_rfl
def encExt_r4.T : Bool × List (List Nat × List Nat):=(true,[([],[]),([],[]),([1],[1]),([2],[2]),([],[]),([4],[4]),([5],[5]),([],[]),([7],[7]),([8],[8]),([],[]),([10],[10]),([11],[11]),([],[]),([13],[13]),([14],[14]),([],[]),([16],[16]),([17],[17]),([18],[18]),([3,6,9,12,15,19],[3,6,9,12,15,19]),([0,20,19],[0,20]),([21,21,0,1,2,3,4,5,6,7,8,9,10,11,12,13,14,15,16,17,18,19,20,21],[0,21])])
def encExt_r4.B : List Nat:=[0,0,2,6,0,16,48,0,128,384,0,1024,3072,0,8192,24576,0,65536,196608,458752,1048574,2097151,4194303]
theorem encExt_r4.tab : rtab .any (opsOf Try.f19 4) = encExt_r4.T:=by kernel_rfl
theorem encExt_r4.bits : waitsOk encExt_r4.T.2 encExt_r4.B = true:=by kernel_rfl
def encExt_r3.l0 : Array Bool:=bl 20 1
def encExt_r3.l1 : Array Bool:=bl 20 3
def encExt_r3.l2 : Array Bool:=bl 20 7
def encExt_r3.l3 : Array Bool:=bl 20 15
def encExt_r3.l4 : Array Bool:=bl 20 31
def encExt_r3.l5 : Array Bool:=bl 20 63
def encExt_r3.l6 : Array Bool:=bl 20 127
def encExt_r3.l7 : Array Bool:=bl 20 255
def encExt_r3.l8 : Array Bool:=bl 20 511
def encExt_r3.l9 : Array Bool:=bl 20 1023
def encExt_r3.l10 : Array Bool:=bl 20 2047
def encExt_r3.l11 : Array Bool:=bl 20 4095
def encExt_r3.l12 : Array Bool:=bl 20 8191
def encExt_r3.l13 : Array Bool:=bl 20 16383
def encExt_r3.l14 : Array Bool:=bl 20 81919
def encExt_r3.l15 : Array Bool:=bl 20 212991
def encExt_r3.l16 : Array Bool:=bl 20 229375
def encExt_r3.l17 : Array Bool:=bl 20 262143
def encExt_r3.l18 : Array Bool:=bl 20 524287
def encExt_r3.l19 : Array Bool:=bl 20 1048575
def encExt_r4.l0 : Array Bool:=bl 23 1
def encExt_r4.l1 : Array Bool:=bl 23 3
def encExt_r4.l2 : Array Bool:=bl 23 7
def encExt_r4.l3 : Array Bool:=bl 23 15
def encExt_r4.l4 : Array Bool:=bl 23 31
def encExt_r4.l5 : Array Bool:=bl 23 63
def encExt_r4.l6 : Array Bool:=bl 23 127
def encExt_r4.l7 : Array Bool:=bl 23 255
def encExt_r4.l8 : Array Bool:=bl 23 511
def encExt_r4.l9 : Array Bool:=bl 23 1023
def encExt_r4.l10 : Array Bool:=bl 23 2047
def encExt_r4.l11 : Array Bool:=bl 23 4095
def encExt_r4.l12 : Array Bool:=bl 23 8191
def encExt_r4.l13 : Array Bool:=bl 23 16383
def encExt_r4.l14 : Array Bool:=bl 23 32767
def encExt_r4.l15 : Array Bool:=bl 23 65535
def encExt_r4.l16 : Array Bool:=bl 23 131071
def encExt_r4.l17 : Array Bool:=bl 23 262143
def encExt_r4.l18 : Array Bool:=bl 23 524287
def encExt_r4.l19 : Array Bool:=bl 23 1048575
def encExt_r4.l20 : Array Bool:=bl 23 2097151
def encExt_r4.l21 : Array Bool:=bl 23 4194303
def encExt_r4.l22 : Array Bool:=bl 23 8388607
set_option maxRecDepth 100000 in
set_option maxHeartbeats 16000000 in
theorem encodeExt_calls (x : Ext) (A : Option Addr) (c : Nat) (w : World) (hx : x.sum.length = 32) (hC : Kd.C k25 w A x.call.f3.length x.call.f3) (hc : x.call.f3.length ≤ c) :
 Calls Try.prog 19 #[.agg (x.cells A c).toArray] w fun e w'=>∃ v0 : Value,e = .returned (.tuple #[v0,.int .i64 (errE (isExtP x))]) ∧ Kd.R (Kd.int .u8) 5 w' w.heap.size (fun _=>True) v0 (bytesE x) ∧ Below w.heap.size w w':=by
 obtain ⟨X,hX⟩ : ∃ X,X = x.cells A c:=⟨_,rfl⟩
 have hXl : X.length = 49:=by rw [hX];exact Ext.cells_length _ _ _ hx
 obtain ⟨r,hr⟩ : ∃ r,isExtP x = r:=⟨_,rfl⟩;have HALL : Aside0 (∀ w1,Below w.heap.size w w1 → Calls Try.prog 14 #[.agg X.toArray] w1 fun e w'=>e = .returned (.bool r) ∧ Below w1.heap.size w1 w'):=⟨fun w1 hb=>by rw [hX,← hr];exact code_IsExt.all x A c w1 hx (Kd.C_below hC hb) hc⟩;have HX:=am hX;have Hr:=am hr;have HXl:=am hXl;have Hx:=am hx;have HC:=am hC;have Hc:=am hc;rw [← hX,hr];clear hX hr hXl hx hC hc
 cases r with
 | false=>
   go_enter Try.func19,Try.ntmps19
   go_upto_region 1 with ((with_reducible refine gate_dst (N:=1) rfl ?_);refine box_event ?hg (N:=1) ?hd (cs:=X.toArray) (t:=33) ?hr ?_;(case hd=>rfl);(case hg=>rfl);(case hr=>first | (go_simp;done) | (go_simp;rfl));intro g1 hg1 w1 hbox1 hb1;have hR1:=am (rangeAt_box hbox1);have B1:=am hb1;clear hg1 hbox1 hb1)
   go_wp2_with (first
    | ((with_reducible refine gate_dst (N:=5) rfl ?_);refine wpList_load_mid rfl 33 _ rfl g1 0 rfl X _ hR1.out Try.underlying33 rfl (by rw [HXl.out];exact info_ext') ?_)
    | (go_at_call 14;with_reducible refine (HALL.out _ B1.out).mono ?_;rintro e w2 ⟨rfl,hb2⟩;have B2:=am hb2;clear hb2))
   go_ret2
   refine ⟨_,rfl,?_,below_step B1.out B2.out⟩
   have e : bytesE x = []:=by unfold bytesE;rw [Hr.out];rfl
   rw [e];exact Kd.R_nil _ _ _ _ _
 | true=>
   have HP7 : Aside0 (compact_Put.f 40 [] (headE x) = some (numsB (headE x))):=⟨put_tells 40 [] (headE x) (show 7 ≤ 1000000 by decide) (show 7 + 11 ≤ 40 by decide) (show 0 + 9 * 7 + 9 < 140737488355328 by decide)⟩;obtain ⟨fl,hfl⟩ : ∃ fl,fl = flagI x.vaye:=⟨_,rfl⟩;have HFL : Aside0 (code_flag.f x.vaye = some fl):=⟨by rw [hfl];unfold code_flag.f flagI;cases x.vaye <;> rfl⟩;have hl7:=numsB_length (headE x);obtain ⟨b5,hb5⟩ : ∃ b5,b5 = numsB (headE x) ++ sumI x.sum:=⟨_,rfl⟩;have HB5:=am hb5;obtain ⟨b8,hb8⟩ : ∃ b8,b8 = b5 ++ numsB (voteE x):=⟨_,rfl⟩;have HP6 : Aside0 (compact_Put.f 40 b5 [x.vkind,x.va,x.vn,x.vs,x.vlevel,fl] = some b8):=⟨by rw [hfl,hb8];exact put_tells 40 _ (voteE x) (show 6 ≤ 1000000 by decide) (show 6 + 11 ≤ 40 by decide) (by rw [hb5,List.length_append,sumI_length,Hx.out];have e7 : (headE x).length = 7:=rfl;have e6 : (voteE x).length = 6:=rfl;omega)⟩;have HL32 : Aside0 (((numsB (headE x)).length + 32) * 1 ≤ 140737488355328):=⟨by have e7 : (headE x).length = 7:=rfl;omega⟩;have HLB : Aside0 (b8.length ≤ 200):=⟨by have:=numsB_length (voteE x);have e7 : (headE x).length = 7:=rfl;have e6 : (voteE x).length = 6:=rfl;rw [hb8,hb5,List.length_append,List.length_append,sumI_length,Hx.out];omega⟩;have HB8:=am hb8;clear hl7 hfl hb5 hb8;go_enter Try.func19,Try.ntmps19
   go_upto_region 1 with ((with_reducible refine gate_dst (N:=1) rfl ?_);refine box_event ?hg (N:=1) ?hd (cs:=X.toArray) (t:=33) ?hr ?_;(case hd=>rfl);(case hg=>rfl);(case hr=>first | (go_simp;done) | (go_simp;rfl));intro g1 hg1 w1 hbox1 hb1;have hR1:=am (rangeAt_box hbox1);have L1:=am (blk_lt hbox1);have B1:=am hb1;clear hg1 hbox1 hb1)
   go_upto_region 3 with (first
    | ((with_reducible refine gate_dst (N:=5) rfl ?_);refine wpList_load_mid rfl 33 _ rfl g1 0 rfl X _ hR1.out Try.underlying33 rfl (by rw [HXl.out];exact info_ext') ?_)
    | (go_at_call 14;with_reducible refine (HALL.out _ B1.out).mono ?_;rintro e w2 ⟨rfl,hb2⟩;have B2:=am hb2;clear hb2))
   have r0:=(World.rangeAt_drew _ g1 0 _).2 (rangeAt_below hR1.out B2.out L1.out);have hR2:=am r0;have L2 : Aside0 (g1 < w2.drew.heap.size):=⟨Nat.lt_of_lt_of_le L1.out B2.out.size⟩;have B02:=am (below_drew (below_step B1.out B2.out));refine start_ (n:=20) (S:=fun w'=>w'.rangeAt g1 0 X) (ds:=[]) (bl 20 0) (by kernel_rfl) rfl rfl r0 (fun hHeld=>?_);refine with_tabW encExt_r3.tab encExt_r3.bits (fun HT_ HW_=>?_);refine p_ HT_ 0 (some 8) encExt_r3.l0 ?_;refine tk HT_ HW_ hHeld 1 (some 9) encExt_r3.l1 (hr:=by intro w' hs_;obtain ⟨p0,p1,p2,p3,p4,p5,p6⟩:=x.at_head A c (HX.out ▸ hs_);go_simp;with_reducible rfl) (h:=?_);refine p_ HT_ 2 (some 10) encExt_r3.l2 ?_;refine tk HT_ HW_ hHeld 3 (some 11) encExt_r3.l3 (hr:=by intro w' hs_;obtain ⟨p0,p1,p2,p3,p4,p5,p6⟩:=x.at_head A c (HX.out ▸ hs_);go_simp;with_reducible rfl) (h:=?_);refine p_ HT_ 4 (some 12) encExt_r3.l4 ?_;refine tk HT_ HW_ hHeld 5 (some 13) encExt_r3.l5 (hr:=by intro w' hs_;obtain ⟨p0,p1,p2,p3,p4,p5,p6⟩:=x.at_head A c (HX.out ▸ hs_);go_simp;with_reducible rfl) (h:=?_);refine p_ HT_ 6 (some 14) encExt_r3.l6 ?_;refine tk HT_ HW_ hHeld 7 (some 15) encExt_r3.l7 (hr:=by intro w' hs_;obtain ⟨p0,p1,p2,p3,p4,p5,p6⟩:=x.at_head A c (HX.out ▸ hs_);go_simp;with_reducible rfl) (h:=?_);refine p_ HT_ 8 (some 16) encExt_r3.l8 ?_;refine tk HT_ HW_ hHeld 9 (some 17) encExt_r3.l9 (hr:=by intro w' hs_;obtain ⟨p0,p1,p2,p3,p4,p5,p6⟩:=x.at_head A c (HX.out ▸ hs_);go_simp;with_reducible rfl) (h:=?_);refine p_ HT_ 10 (some 18) encExt_r3.l10 ?_;refine tk HT_ HW_ hHeld 11 (some 19) encExt_r3.l11 (hr:=by intro w' hs_;obtain ⟨p0,p1,p2,p3,p4,p5,p6⟩:=x.at_head A c (HX.out ▸ hs_);go_simp;with_reducible rfl) (h:=?_);refine p_ HT_ 12 (some 20) encExt_r3.l12 ?_;refine tk HT_ HW_ hHeld 13 (some 21) encExt_r3.l13 (hr:=by intro w' hs_;obtain ⟨p0,p1,p2,p3,p4,p5,p6⟩:=x.at_head A c (HX.out ▸ hs_);go_simp;with_reducible rfl) (h:=?_);refine p_ HT_ 16 (some 24) encExt_r3.l14 ?_;refine p_ HT_ 17 (some 25) encExt_r3.l15 ?_;refine o_ HT_ 14 (some 22) encExt_r3.l16 fun K hK=>?_;refine slice_step (cs:=#[.int .i64 x.kind,.int .i64 x.who,.int .i64 x.dest,.int .i64 x.amt,.int .i64 x.rfd,.int .i64 x.track,.int .i64 x.level]) (t:=3) (n:=7) (c:=7) (by first | (go_simp;done) | (go_simp;rfl)) ?_;intro gN hg_ w3 hbox_ hb_;replace hHeld:=rangeAt_below hHeld hb_ (by have:=L2.out;exact this);refine hK.out _ _ hHeld (fun hHeld=>?_);clear hK K;have BXgN:=am hbox_;have Bw3:=am hb_;have EgN:=am hg_;clear hg_ hbox_ hb_;refine nm (some 22) ?_;refine o_ HT_ 15 (some 23) encExt_r3.l17 fun K hK=>?_;refine gs Try.func39 #[.slice none 0 0,.slice (some ⟨gN,0,none⟩) 7 7] ?_;refine (compact_Put.calls 40 none 0 [] (some ⟨gN,0,none⟩) 7 (headE x) (numsB (headE x)) w3 (Kd.C_nil _ _) (Nat.le_refl _) (C_head (ns:=headE x) BXgN.out (show 7 ≤ 1000000 by decide)) (Nat.le_refl _) HP7.out).mono ?_;rintro e w4 ⟨v0_,rfl,hr_,hb_⟩;obtain ⟨A4,c4,hv_,hc_,hC_⟩:=Kd.R_reads hr_;subst hv_;replace hHeld:=rangeAt_below hHeld hb_ (by have:=L2.out;have:=Bw3.out.size;exact Nat.lt_of_lt_of_le L2.out Bw3.out.size);have HR4:=am hr_;have HC4:=am hC_;have Hc4:=am hc_;have Bw4:=am hb_;clear hr_ hb_ hc_ hC_;refine ⟨_,rfl,?_⟩;refine hK.out _ _ hHeld (fun hHeld=>?_);clear hK K;refine nm (some 23) ?_;refine o_ HT_ 18 (some 26) encExt_r3.l18 fun K hK=>?_;refine Kd.R_append_rows_step (Kd.int .u8) (w0:=w3) w3.heap.size (by rfl) (.tmp 23) (.tmp 25) 38 5 (.int .u8 0) 1 rfl Try.underlying38 info_u8z rfl (by decide) (by omega) _ (numsB (headE x)) (sumI x.sum) _ _ _ (fun _=>True) (fun _=>False) rfl rfl HR4.out (C_sum x A c Hx.out (HX.out ▸ hHeld)) (fun _ _ h=>h) (fun _ h=>h.elim) (fun _ _=>trivial) Bw4.out Bw4.out.size HL32.out ?_
   intro v5 w5 ho_ hb_ hg_ hat_;rw [← HB5.out] at ho_;clear hg_ hat_;replace hHeld:=rangeAt_below (rangeAt_below hR2.out Bw3.out L2.out) hb_ (Nat.lt_of_lt_of_le L2.out Bw3.out.size);obtain ⟨A5,c5,hv_,hc_,hC_⟩:=Kd.R_reads ho_;subst hv_;have HC5:=am hC_;have Hc5:=am hc_;have B5:=am hb_;clear ho_ hb_ hc_ hC_;refine hK.out _ _ hHeld (fun hHeld=>?_);clear hK K;refine nm (some 26) ?_;refine p_ HT_ 19 (some 4) encExt_r3.l19 ?_;refine done_ (done_of HT_.out (by kernel_rfl)) ?_;have hR5:=am hHeld;clear HT_ HW_ hHeld HR4;have L5_ : g1 < w5.heap.size:=Nat.lt_of_lt_of_le (Nat.lt_of_lt_of_le L2.out Bw3.out.size) B5.out.size;have B05:=am (below_step (below_step B02.out Bw3.out) B5.out)
   go_upto_region 4 with (fail)
   have r0:=(World.rangeAt_drew _ g1 0 _).2 hR5.out;have L5 : Aside0 (g1 < w5.drew.heap.size):=⟨L5_⟩;have HC5d:=am (Kd.C_drew HC5.out);clear L5_;refine start_ (n:=23) (S:=fun w'=>w'.rangeAt g1 0 X) (ds:=[]) (bl 23 0) (by kernel_rfl) rfl rfl r0 (fun hHeld=>?_);refine with_tabW encExt_r4.tab encExt_r4.bits (fun HT_ HW_=>?_);refine p_ HT_ 0 (some 27) encExt_r4.l0 ?_;refine p_ HT_ 1 (some 28) encExt_r4.l1 ?_;refine p_ HT_ 2 (some 29) encExt_r4.l2 ?_;refine tk HT_ HW_ hHeld 3 (some 30) encExt_r4.l3 (hr:=by intro w' hs_;obtain ⟨p0,p1,p2,p3,p4,p5⟩:=x.at_vote A c Hx.out (HX.out ▸ hs_);go_simp;with_reducible rfl) (h:=?_);refine p_ HT_ 4 (some 31) encExt_r4.l4 ?_;refine p_ HT_ 5 (some 32) encExt_r4.l5 ?_;refine tk HT_ HW_ hHeld 6 (some 33) encExt_r4.l6 (hr:=by intro w' hs_;obtain ⟨p0,p1,p2,p3,p4,p5⟩:=x.at_vote A c Hx.out (HX.out ▸ hs_);go_simp;with_reducible rfl) (h:=?_);refine p_ HT_ 7 (some 34) encExt_r4.l7 ?_;refine p_ HT_ 8 (some 35) encExt_r4.l8 ?_;refine tk HT_ HW_ hHeld 9 (some 36) encExt_r4.l9 (hr:=by intro w' hs_;obtain ⟨p0,p1,p2,p3,p4,p5⟩:=x.at_vote A c Hx.out (HX.out ▸ hs_);go_simp;with_reducible rfl) (h:=?_);refine p_ HT_ 10 (some 37) encExt_r4.l10 ?_;refine p_ HT_ 11 (some 38) encExt_r4.l11 ?_;refine tk HT_ HW_ hHeld 12 (some 39) encExt_r4.l12 (hr:=by intro w' hs_;obtain ⟨p0,p1,p2,p3,p4,p5⟩:=x.at_vote A c Hx.out (HX.out ▸ hs_);go_simp;with_reducible rfl) (h:=?_);refine p_ HT_ 13 (some 40) encExt_r4.l13 ?_;refine p_ HT_ 14 (some 41) encExt_r4.l14 ?_;refine tk HT_ HW_ hHeld 15 (some 42) encExt_r4.l15 (hr:=by intro w' hs_;obtain ⟨p0,p1,p2,p3,p4,p5⟩:=x.at_vote A c Hx.out (HX.out ▸ hs_);go_simp;with_reducible rfl) (h:=?_);refine p_ HT_ 16 (some 43) encExt_r4.l16 ?_;refine p_ HT_ 17 (some 44) encExt_r4.l17 ?_;refine tk HT_ HW_ hHeld 18 (some 45) encExt_r4.l18 (hr:=by intro w' hs_;obtain ⟨p0,p1,p2,p3,p4,p5⟩:=x.at_vote A c Hx.out (HX.out ▸ hs_);go_simp;with_reducible rfl) (h:=?_);refine o_ HT_ 19 (some 46) encExt_r4.l19 fun K hK=>?_;refine gs Try.func40 #[.bool x.vaye] ?_;refine (code_flag.calls x.vaye fl _ HFL.out).mono ?_;rintro e w6 ⟨rfl,hd_⟩;replace hHeld:=rangeAt_below hHeld hd_.below L5.out;have B6:=am hd_.below;clear hd_;refine ⟨_,rfl,?_⟩;refine hK.out _ _ hHeld (fun hHeld=>?_);clear hK K;refine nm (some 46) ?_;refine o_ HT_ 20 (some 47) encExt_r4.l20 fun K hK=>?_;refine slice_step (cs:=#[.int .i64 x.vkind,.int .i64 x.va,.int .i64 x.vn,.int .i64 x.vs,.int .i64 x.vlevel,.int .i64 fl]) (t:=3) (n:=6) (c:=6) (by first | (go_simp;done) | (go_simp;rfl)) ?_;intro gV hg_ w7 hbox_ hb_;replace hHeld:=rangeAt_below hHeld hb_ (Nat.lt_of_lt_of_le L5.out B6.out.size);refine hK.out _ _ hHeld (fun hHeld=>?_);clear hK K;have BXgV:=am hbox_;have Bw7:=am hb_;have EgV:=am hg_;clear hg_ hbox_ hb_;refine nm (some 47) ?_;refine o_ HT_ 21 (some 48) encExt_r4.l21 fun K hK=>?_;refine gs Try.func39 #[.slice A5 b5.length c5,.slice (some ⟨gV,0,none⟩) 6 6] ?_;refine (compact_Put.calls 40 A5 c5 b5 (some ⟨gV,0,none⟩) 6 [x.vkind,x.va,x.vn,x.vs,x.vlevel,fl] _ w7 (Kd.C_below (Kd.C_below HC5d.out B6.out) Bw7.out) Hc5.out (C_head (ns:=[x.vkind,x.va,x.vn,x.vs,x.vlevel,fl]) BXgV.out (show 6 ≤ 1000000 by decide)) (Nat.le_refl _) HP6.out).mono ?_;rintro e w8 ⟨v0_,rfl,hr_,hb_⟩;obtain ⟨A8,c8,hv_,hc_,hC_⟩:=Kd.R_reads hr_;subst hv_;replace hHeld:=rangeAt_below hHeld hb_ (Nat.lt_of_lt_of_le (Nat.lt_of_lt_of_le L5.out B6.out.size) Bw7.out.size);have HR8:=am hr_;have HC8:=am hC_;have Hc8:=am hc_;have Bw8:=am hb_;clear hr_ hb_ hc_ hC_;refine ⟨_,rfl,?_⟩;refine hK.out _ _ hHeld (fun hHeld=>?_)
   clear hK K;refine nm (some 48) ?_;refine p_ HT_ 22 (some 4) encExt_r4.l22 ?_;refine done_ (done_of HT_.out (by kernel_rfl)) ?_;have hR8:=am hHeld;clear HT_ HW_ hHeld;have B08:=am (below_step (below_step (below_step (below_drew B05.out) B6.out) Bw7.out) Bw8.out);obtain ⟨p45,p46,p47,p48⟩:=x.at_call A c Hx.out (HX.out ▸ hR8.out)
   have eB : bytesE x = b8 ++ rowB (callB x):=by
    rw [HB8.out,HB5.out]
    unfold bytesE
    rw [Hr.out,if_pos rfl]
    unfold encE
    simp only [List.append_assoc]
   have EB:=am eB;clear eB HR8 HP6 HP7 HL32 HC5 Hc5 HC5d HC4 Hc4
   by_cases h0 : x.call.f0 = 0
   ·have d0 : decide (x.call.f0 = 0) = true:=decide_eq_true h0;have d1 : (x.call.f0 == 0) = true:=beq_iff_eq.2 h0
    have eC : callB x = []:=by unfold callB;rw [if_pos h0]
    have EC:=am eC;have HROW : Aside0 (compact_Row.f 40 b8 [[]] = some (b8 ++ rowsB [[]])):=⟨row_tells 40 b8 [[]] (by decide) (show 1 + 11 ≤ 40 by decide) (by have:=HLB.out;simp [rowsSize];omega)⟩;clear h0 eC
    go_wp2_with (first
     | ((with_reducible refine gate_dst (N:=54) rfl ?_);refine slice_event' ?hg (N:=54) ?hd (cs:=#[.slice none 0 0]) (t:=38) (n:=1) (c:=1) ?hr ?_;(case hd=>rfl);(case hg=>rfl);(case hr=>first | (go_simp;done) | (go_simp;rfl));intro gp hg_ w9 hbox_ hb_;have BXp:=am hbox_;have B9:=am hb_;clear hg_ hbox_ hb_)
     | (go_at_call 41;go_loud (have hR_:=(compact_Row.calls 40 A8 c8 b8 (some ⟨gp,0,none⟩) 1 [[]] _ w9 (Kd.C_below HC8.out B9.out) Hc8.out (C_one (b:=[]) (Kd.C_nil _ _) (Nat.le_refl _) BXp.out) (Nat.le_refl _) HROW.out);rw [show ([[]] : List (List Int)).length = 1 from rfl] at hR_;with_reducible refine hR_.mono ?_;clear hR_;rintro e w10 ⟨v10,rfl,hr_,hb_⟩;have HR10:=am hr_;have B10:=am hb_;clear hr_ hb_)))
    go_ret2
    refine ⟨_,rfl,?_,below_step (below_step B08.out B9.out) B10.out⟩;rw [EB.out,EC.out]
    have e1 : rowsB [[]] = rowB []:=by simp [rowsB]
    rw [← e1];exact Kd.R_lower HR10.out (below_step B08.out B9.out).size
   have d0 : decide (x.call.f0 = 0) = false:=decide_eq_false h0;have d1 : (x.call.f0 == 0) = false:=beq_eq_false_iff_ne.2 h0
   have eC : callB x = encC 3 x.call:=by unfold callB;rw [if_neg h0]
   have hok : okT 3 x.call = true:=(isExt_call Hr.out).resolve_right (fun e=>h0 (by rw [e];rfl));have HCALL : Aside0 (code_call.f 200 x.call.f0 x.call.f1 x.call.f2 x.call.f3 = some (encC 3 x.call)):=⟨call_tells 3 (by decide) x.call hok 200 (by decide)⟩;have hm:=encC_most 3 x.call hok;have hm2:=mostC_small (f:=3) (by decide);have EC:=am eC;obtain ⟨p,hp⟩ : ∃ p,p = encC 3 x.call:=⟨_,rfl⟩;rw [← hp] at hm EC HCALL;have HROW : Aside0 (compact_Row.f 40 b8 [p] = some (b8 ++ rowsB [p])):=⟨row_tells 40 b8 [p] (by simp [rowsSize];omega) (show 1 + 11 ≤ 40 by decide) (by have:=HLB.out;simp [rowsSize];omega)⟩;clear h0 eC hok hm hm2 hp
   go_wp2_with (first
    | (go_at_call 37;go_loud (with_reducible refine (code_call.calls 200 _ _ _ A c x.call.f3 p w8 (Kd.C_below HC.out B08.out) Hc.out HCALL.out).mono ?_;rintro e w9 ⟨v9,rfl,hr_,hb_⟩;obtain ⟨A9,c9,hv_,hc_,hC_⟩:=Kd.R_reads hr_;subst hv_;have HC9:=am hC_;have Hc9:=am hc_;have B9:=am hb_;clear hr_ hb_ hC_ hc_))
    | ((with_reducible refine gate_dst (N:=60) rfl ?_);refine slice_event' ?hg (N:=60) ?hd (cs:=#[.slice A9 p.length c9]) (t:=38) (n:=1) (c:=1) ?hr ?_;(case hd=>rfl);(case hg=>rfl);(case hr=>first | (go_simp;done) | (go_simp;rfl));intro gp hg_ w10 hbox_ hb_;have BXp:=am hbox_;have B10:=am hb_;clear hg_ hbox_ hb_)
    | (go_at_call 41;go_loud (have hR_:=(compact_Row.calls 40 A8 c8 b8 (some ⟨gp,0,none⟩) 1 [p] _ w10 (Kd.C_below (Kd.C_below HC8.out B9.out) B10.out) Hc8.out (C_one (Kd.C_below HC9.out B10.out) Hc9.out BXp.out) (Nat.le_refl _) HROW.out);rw [show [p].length = 1 from rfl] at hR_;with_reducible refine hR_.mono ?_;clear hR_;rintro e w11 ⟨v11,rfl,hr_,hb_⟩;have HR11:=am hr_;have B11:=am hb_;clear hr_ hb_)))
   go_ret2
   refine ⟨_,rfl,?_,below_step (below_step (below_step B08.out B9.out) B10.out) B11.out⟩;rw [EB.out,EC.out]
   have e1 : rowsB [p] = rowB p:=by simp [rowsB]
   rw [← e1];exact Kd.R_lower HR11.out (below_step (below_step B08.out B9.out) B10.out).size
end Go.Proofs.Ytilckocpgififaa.G
/- (*code.reader).raw: bytes are taken into an array (laid by mkraw.py). -/
namespace Go.Proofs.Ytilckocpgififaa.G
open Go.RowKit Go.Shelf Go.Proofs.YtilckocpgififaaW.PrintWords Go.Proofs.YtilckocpgififaaW.PrintLast Go.Proofs.YtilckocpgififaaW.PrintMore Go.Proofs.Ytilckocpgififaa.PNum
set_option linter.unusedVariables false
set_option linter.unusedSimpArgs false
def raw_r1.T : Bool × List (List Nat × List Nat):=(true,[([],[]),([],[]),([1],[1]),([2],[2]),([3],[3]),([],[]),([],[]),([6],[6]),([7],[7]),([8],[8]),([5,9],[5,9]),([4,10],[4,10]),([0,0,1,2,3,4,5,6,7,8,9,10,11],[0]),([12,0,1,2,3,4,5,6,7,8,9,10,11],[12]),([13,11,10,0,1,2,3,4,5,6,7,8,9,10,11],[11,13])])
def raw_r1.B : List Nat:=[0,0,2,6,14,0,0,64,192,448,992,2046,4095,8191,16383]
theorem raw_r1.tab : rtab .any (opsOf Try.f44 1) = raw_r1.T:=by kernel_rfl
theorem raw_r1.bits : waitsOk raw_r1.T.2 raw_r1.B = true:=by kernel_rfl
def raw_r1.l0 : Array Bool:=bl 15 1
def raw_r1.l1 : Array Bool:=bl 15 3
def raw_r1.l2 : Array Bool:=bl 15 7
def raw_r1.l3 : Array Bool:=bl 15 15
def raw_r1.l4 : Array Bool:=bl 15 31
def raw_r1.l5 : Array Bool:=bl 15 63
def raw_r1.l6 : Array Bool:=bl 15 127
def raw_r1.l7 : Array Bool:=bl 15 255
def raw_r1.l8 : Array Bool:=bl 15 511
def raw_r1.l9 : Array Bool:=bl 15 1023
def raw_r1.l10 : Array Bool:=bl 15 2047
def raw_r1.l11 : Array Bool:=bl 15 4095
def raw_r1.l12 : Array Bool:=bl 15 8191
def raw_r1.l13 : Array Bool:=bl 15 16383
def raw_r1.l14 : Array Bool:=bl 15 32767
set_option maxRecDepth 100000 in
set_option maxHeartbeats 16000000 in
theorem raw_calls (B R g1 g2 o cp : Nat) (A : Option Addr) (c : Nat) (l : List Int) (ok : Bool) (L1 L2 : List Value) (w : World) (hR : ReadAt B w R g1 g2 A c l ok L1 L2) (ho : o + 32 ≤ L1.length) :
 Calls Try.prog 44 #[.pointer (some ⟨R,0,none⟩),.slice (some ⟨g1,o,none⟩) 32 cp] w fun e w'=>e = .returned (.tuple #[]) ∧
  (∃ A' c',ReadAt B w' R g1 g2 A' c' (l.drop 32) (ok && decide (32 ≤ l.length)) (L1.take o ++ u8s (l.take 32) ++ L1.drop (o + (l.take 32).length)) L2) ∧ Kept (bad3 R g1 g2) w w':=by
 obtain ⟨j,hj⟩ : ∃ j,j = (l.take 32).length:=⟨_,rfl⟩
 have hjd : l.drop j = l.drop 32:=by rw [hj,drop_min]
 have hjl : j ≤ l.length:=by rw [hj,List.length_take];omega
 have hj2 : j ≤ 32:=by rw [hj];exact List.length_take_le 32 l
 have hj3 : l.length - j = (l.drop 32).length:=by rw [hj,List.length_take,List.length_drop];omega
 rw [← hj];obtain ⟨i8,hi8,_,hsz8,_⟩:=info_parts info5;obtain ⟨A2,hcut,hCr,hcc,hAA⟩:=cut_tail (P:=Try.prog) 38 5 Try.underlying38 hi8 hsz8 A c l j hjl hR.cap;rw [hjd] at hCr;obtain ⟨V,hV⟩ : ∃ V,V = u8s (l.take 32):=⟨_,rfl⟩;have HVl : Aside0 (V.length = j):=⟨by rw [hV,hj];exact List.length_map ..⟩;have HO : Aside0 (o + j ≤ L1.length):=⟨by omega⟩;have HO32:=am ho;have HT32 : Aside0 (j ≤ l.length ∧ l.length - j = (l.drop 32).length):=⟨hjl,hj3⟩;have HJ:=am hj;have HV:=am hV;have HR:=am hR;have HCR:=am hCr;have HCC:=am hcc;have HAA:=am hAA;have hsh:=hR.short;have r0:=hR.reader.cell (i:=0) (v:= .slice A l.length c) rfl;have q1:=hR.reader.cell (i:=1) (v:= .bool ok) rfl;have q2:=hR.reader.frozen 1 (by simp);clear hV hR hCr hcc hAA hi8 hsz8 ho hj hjd hj3;obtain ⟨kk,hkk⟩ : ∃ kk,kk = (ok && decide (32 ≤ l.length)):=⟨_,rfl⟩;have HKK:=am hkk;rw [← hkk];obtain ⟨d,hd⟩ : ∃ d,d = decide (32 ≤ l.length):=⟨_,rfl⟩
 have hd1 : decide ((32 : Int) ≤ (l.length : Int)) = d:=by rw [hd];exact decide_eq_decide.2 (by omega)
 have hd2 : decide ((l.length : Int) ≥ (32 : Int)) = d:=hd1;rw [← hd] at hkk;clear hd;cases ok
 all_goals (
  go_enter Try.func44,Try.ntmps44
  go_upto_region 1 with (fail)
  have n0_:=HR.out.setOk kk;have k0_:=(Kept.refl (bad3 R g1 g2) w).set (.inl rfl) 1 (.bool kk);rw [hkk] at n0_ k0_;clear q1 q2;simp only [Bool.true_and,Bool.false_and] at n0_ k0_;generalize World.setCell _ _ _ = w2 at n0_ k0_ ⊢;clear r0;have r0:=n0_.drew.reader.cell (i:=0) (v:= .slice A l.length c) rfl;have HQ0:=am n0_.drew;have HKQ0:=am k0_.drew;have hcp:=copy_bytes (c:=c) (cp:=cp) (ty:=3) n0_.drew.row n0_.drew.one HO32.out;rw [← HV.out,← HJ.out] at hcp;have HCP:=am hcp;clear n0_ k0_ hcp hd1 hd2 hsh;refine start_ (n:=15) (S:=fun w'=>w'.cell? ⟨R,0,none⟩ = some (.slice A l.length c)) (ds:=[14]) (bl 15 0) (by kernel_rfl) rfl rfl r0 (fun hHeld=>?_);refine with_tabW raw_r1.tab raw_r1.bits (fun HT_ HW_=>?_);clear hHeld;have hHeld:=r0;refine p_ HT_ 0 (some 21) raw_r1.l0 ?_;refine p_ HT_ 1 (some 22) raw_r1.l1 ?_;refine p_ HT_ 2 (some 23) raw_r1.l2 ?_;refine p_ HT_ 3 (some 24) raw_r1.l3 ?_;refine tk HT_ HW_ hHeld 4 (some 25) raw_r1.l4 (hr:=by intro w' hs_;have s0:=hs_;go_simp;with_reducible rfl) (h:=?_);refine p_ HT_ 5 (some 26) raw_r1.l5 ?_;refine p_ HT_ 6 (some 27) raw_r1.l6 ?_;refine p_ HT_ 7 (some 28) raw_r1.l7 ?_;refine p_ HT_ 8 (some 29) raw_r1.l8 ?_;refine tk HT_ HW_ hHeld 9 (some 30) raw_r1.l9 (hr:=by intro w' hs_;have s0:=hs_;go_simp;with_reducible rfl) (h:=?_);have n0_:=HQ0.out.splice o V (by rw [HVl.out];exact HO.out);have k0_:=HKQ0.out.splice (bad:=bad3 R g1 g2) (.inr (.inl rfl)) o V;have hHeld':=n0_.reader.cell (i:=0) (v:= .slice A l.length c) rfl;refine o_ HT_ 10 (some 31) raw_r1.l10 fun K hK=>?_;refine wp_run (w1:=w2.drew.setCells g1 o V) (copy_runO (.tmp 26) (.tmp 30) _ _ rfl _ _ rfl rfl HCP.out) ?_;refine hK.out _ _ hHeld' (fun hHeld=>?_);clear hK K;generalize World.setCells _ _ _ _ = w3 at n0_ k0_ hHeld ⊢;have N0:=am n0_;have K0:=am k0_;have f0:=n0_.reader.frozen 0 (by simp);clear n0_ k0_ hHeld';refine nm (some 31) ?_;refine p_ HT_ 11 (some 32) raw_r1.l11 ?_;refine p_ HT_ 12 (some 33) raw_r1.l12 ?_;refine p_ HT_ 13 (some 34) raw_r1.l13 ?_;refine last_ (i:=14) (N:=none) raw_r1.l14 rfl rfl (one_of HT_.out (by kernel_rfl)) (by decide) (fun K hK=>?_);refine skip_ (w1:=w3.setCell ⟨R,0,none⟩ (.slice A2 (l.length - j) (c - j))) (by rfl) rfl ?_ ?_
  ·go_simp
  refine hK.out _ _ ?_;clear hK K;refine done_ (done_of HT_.out (by kernel_rfl)) ?_;clear HT_ HW_
  have n0_:=N0.out.setRest (A':=A2) (c':=c - j) (l':=l.drop 32) (by rw [← HT32.out.2];exact HCC.out) (HCR.out _ _ N0.out.row) (N0.out.bytes.drop 32) (by rw [List.length_drop];have:=N0.out.short;omega) (fun ad' e hn=>by
   obtain ⟨ad,e1,e2⟩:=HAA.out ad' e
   rw [e2];exact N0.out.far ad e1 (by rw [List.length_drop] at hn;omega))
  have k0_:=K0.out.set (bad:=bad3 R g1 g2) (g:=R) (.inl rfl) 0 (.slice A2 (l.drop 32).length (c - j));clear hHeld f0;rw [← HT32.out.2] at n0_ k0_;generalize World.setCell _ _ _ = w5 at n0_ k0_ ⊢;have HF:=am n0_;have HKF:=am k0_;clear n0_ k0_
  go_wp2
  refine bodyPost_end (v:= .tuple #[]) (results_none rfl _ _ _) rfl ?_;refine ⟨rfl,⟨A2,c - j,?_⟩,HKF.out⟩;have h:=HF.out;rw [HVl.out,HV.out] at h;rw [hkk];simp only [Bool.true_and,Bool.false_and]
  exact h)
end Go.Proofs.Ytilckocpgififaa.G
/- What the walk of code.DecodeExt needs: places, cells that make up an extrinsic. -/
namespace Go.Proofs.Ytilckocpgififaa.G
open Go.Extern.Stop (cell)
open Go.RowKit Go.Shelf Go.Proofs.YtilckocpgififaaW.PrintWords Go.Proofs.YtilckocpgififaaW.PrintLast Go.Proofs.YtilckocpgififaaW.PrintMore Go.Proofs.Ytilckocpgififaa.PNum
set_option linter.unusedVariables false
set_option linter.unusedSimpArgs false
def places7 : List (Bool × Nat):=[(true,0),(true,1),(true,2),(true,3),(true,4),(true,5),(true,6)]
def places6 : List (Bool × Nat):=[(true,39),(true,42),(true,43),(true,44),(true,41),(false,0)]
def iv (l : List Int) (i : Nat) : Value:= .int .i64 (at0 l i)
def setH (L : List Value) (h : List Int) : List Value:=((((((L.set 0 (iv h 0)).set 1 (iv h 1)).set 2 (iv h 2)).set 3 (iv h 3)).set 4 (iv h 4)).set 5 (iv h 5)).set 6 (iv h 6)
def setV (L : List Value) (v : List Int) : List Value:=((((L.set 39 (iv v 0)).set 42 (iv v 1)).set 43 (iv v 2)).set 44 (iv v 3)).set 41 (iv v 4)
theorem setH_length (L : List Value) (h : List Int) : (setH L h).length = L.length:=by simp [setH]
theorem setV_length (L : List Value) (h : List Int) : (setV L h).length = L.length:=by simp [setV]
theorem numsW_7 (l : List Int) (L1 L2 : List Value) : numsW places7 l true L1 L2 = ((numsP 7 l).2.1,(numsP 7 l).2.2,setH L1 (numsP 7 l).1,L2):=by
 simp [numsW,places7,numsP,setH,iv,at0,restT,valT,okN,Bool.and_assoc]
theorem numsW_6 (l : List Int) (ok : Bool) (L1 : List Value) : numsW places6 l ok L1 [.int .i64 0] = ((numsP 6 l).2.1,ok && (numsP 6 l).2.2,setV L1 (numsP 6 l).1,[iv (numsP 6 l).1 5]):=by
 simp [numsW,places6,numsP,setV,iv,at0,restT,valT,okN,Bool.and_assoc]
theorem places7_cells {w : World} {gp t g5 gn : Nat} (h : w.heap[gp]? = some (.cells #[.pointer (some ⟨g5,0,none⟩),.pointer (some ⟨g5,1,none⟩),.pointer (some ⟨g5,2,none⟩),.pointer (some ⟨g5,3,none⟩),.pointer (some ⟨g5,4,none⟩),.pointer (some ⟨g5,5,none⟩),.pointer (some ⟨g5,6,none⟩)] t (0,0))) :
 ∀ i (hi : i < places7.length),w.cell? ⟨gp,i,none⟩ = some (.pointer (some ⟨if (places7[i]).1 = true then g5 else gn,(places7[i]).2,none⟩)):=by
 have hL : Lies w gp [.pointer (some ⟨g5,0,none⟩),.pointer (some ⟨g5,1,none⟩),.pointer (some ⟨g5,2,none⟩),.pointer (some ⟨g5,3,none⟩),.pointer (some ⟨g5,4,none⟩),.pointer (some ⟨g5,5,none⟩),.pointer (some ⟨g5,6,none⟩)]:=Lies.box h;intro i hi
 have : i = 0 ∨ i = 1 ∨ i = 2 ∨ i = 3 ∨ i = 4 ∨ i = 5 ∨ i = 6:=by have : places7.length = 7:=rfl;omega
 rcases this with rfl | rfl | rfl | rfl | rfl | rfl | rfl <;> exact hL.cell rfl
theorem places6_cells {w : World} {gp t g5 gn : Nat} (h : w.heap[gp]? = some (.cells #[.pointer (some ⟨g5,39,none⟩),.pointer (some ⟨g5,42,none⟩),.pointer (some ⟨g5,43,none⟩),.pointer (some ⟨g5,44,none⟩),.pointer (some ⟨g5,41,none⟩),.pointer (some ⟨gn,0,none⟩)] t (0,0))) :
 ∀ i (hi : i < places6.length),w.cell? ⟨gp,i,none⟩ = some (.pointer (some ⟨if (places6[i]).1 = true then g5 else gn,(places6[i]).2,none⟩)):=by
 have hL : Lies w gp [.pointer (some ⟨g5,39,none⟩),.pointer (some ⟨g5,42,none⟩),.pointer (some ⟨g5,43,none⟩),.pointer (some ⟨g5,44,none⟩),.pointer (some ⟨g5,41,none⟩),.pointer (some ⟨gn,0,none⟩)]:=Lies.box h;intro i hi
 have : i = 0 ∨ i = 1 ∨ i = 2 ∨ i = 3 ∨ i = 4 ∨ i = 5:=by have : places6.length = 6:=rfl;omega
 rcases this with rfl | rfl | rfl | rfl | rfl | rfl <;> exact hL.cell rfl
theorem places7_in {L1 L2 : List Value} (h1 : L1.length = 49) : ∀ i (h : i < places7.length),(places7[i]).2 < (if (places7[i]).1 = true then L1 else L2).length:=by
 intro i hi
 have : i = 0 ∨ i = 1 ∨ i = 2 ∨ i = 3 ∨ i = 4 ∨ i = 5 ∨ i = 6:=by have : places7.length = 7:=rfl;omega
 rcases this with rfl | rfl | rfl | rfl | rfl | rfl | rfl <;> simp [places7,h1]
theorem places6_in {L1 L2 : List Value} (h1 : L1.length = 49) (h2 : L2.length = 1) : ∀ i (h : i < places6.length),(places6[i]).2 < (if (places6[i]).1 = true then L1 else L2).length:=by
 intro i hi
 have : i = 0 ∨ i = 1 ∨ i = 2 ∨ i = 3 ∨ i = 4 ∨ i = 5:=by have : places6.length = 6:=rfl;omega
 rcases this with rfl | rfl | rfl | rfl | rfl | rfl <;> simp [places6,h1,h2]
def zeroE : List Value:=(ext0 0 0).cells none 0
theorem built_ext0 : Try.prog.built 33 [] = some zeroE.toArray:=by kernel_rfl
theorem zeroE_length : zeroE.length = 49:=Ext.cells_length _ _ _ rfl
def cells0 (h s v : List Int) : List Value:=setV (((setH zeroE h).take 7) ++ u8s s ++ (setH zeroE h).drop (7 + s.length)) v
theorem cells0_length (h s v : List Int) (hs : s.length ≤ 32) : (cells0 h s v).length = 49:=by
 unfold cells0
 rw [setV_length];have:=setH_length zeroE h;rw [zeroE_length] at this
 simp [u8s,this];omega
theorem u8s_cells {s : List Int} (hb : IsBytes s) : (bytesU s).map cell = u8s s:=by
 rw [sum_cells,sumI_bytesU hb];rfl
theorem parts_head (l : List Int) : (partsE l).1.head = (numsP 7 l).1:=by unfold partsE;dsimp only
theorem parts_sum (l : List Int) : (partsE l).1.sum = (numsP 7 l).2.1.take 32:=by unfold partsE;dsimp only
theorem parts_vote (l : List Int) : (partsE l).1.vote = (numsP 6 ((numsP 7 l).2.1.drop 32)).1:=by unfold partsE;dsimp only
theorem parts_ok (l : List Int) : (partsE l).2 = (((((numsP 7 l).2.2 && decide (32 ≤ (numsP 7 l).2.1.length)) && (numsP 6 ((numsP 7 l).2.1.drop 32)).2.2) && (rowT (numsP 6 ((numsP 7 l).2.1.drop 32)).2.1).2.2) && decide (((numsP 6 ((numsP 7 l).2.1.drop 32)).2.1.drop (rowT (numsP 6 ((numsP 7 l).2.1.drop 32)).2.1).2.1).length = 0)):=by unfold partsE;dsimp only
def decR (r : RawE) (wh : Bool) (p : List Int) : Option Ext:=
 if okR r wh = true then
  match callD p with
  | some c=>if isExtP (toE r c) = true then some (toE r c) else none
  | none=>none
 else none
theorem decR_no {r : RawE} {wh : Bool} {p : List Int} (h : ¬ okR r wh = true) : decR r wh p = none:=by unfold decR;rw [if_neg h]
theorem decR_none {r : RawE} {wh : Bool} {p : List Int} (h : okR r wh = true) (hc : callD p = none) : decR r wh p = none:=by unfold decR;rw [if_pos h,hc]
theorem decR_some {r : RawE} {wh : Bool} {p : List Int} {c : S25} (h : okR r wh = true) (hc : callD p = some c) : decR r wh p = if isExtP (toE r c) = true then some (toE r c) else none:=by unfold decR;rw [if_pos h,hc]
theorem decE_eq (l : List Int) : decE l = decR (partsE l).1 (partsE l).2 (partsE l).1.row:=by
 unfold decE decR
 generalize partsE l = q
 rfl
theorem cells0_call {r : RawE} (hs : r.sum.length = 32) (hb : IsBytes r.sum) (c : S25) (A : Option Addr) (n : Nat) :
 ((cells0 r.head r.sum r.vote).take 45 ++ [Value.int .i64 c.f0,.int .i64 c.f1,.int .i64 c.f2,.slice A c.f3.length n]).set 40 (.bool (decide (at0 r.vote 5 = 1))) = (toE r c).cells A n:=by
 unfold Ext.cells toE
 dsimp only
 rw [u8s_cells hb]
 have hu : (u8s r.sum).length = 32:=by rw [← hs];exact List.length_map ..
 have hz : zeroE = [Value.int .i64 0,.int .i64 0,.int .i64 0,.int .i64 0,.int .i64 0,.int .i64 0,.int .i64 0] ++ (zSum.map cell ++ [Value.int .i64 0,.bool false,.int .i64 0,.int .i64 0,.int .i64 0,.int .i64 0,.int .i64 0,.int .i64 0,.int .i64 0,.slice none 0 0]):=rfl;have hzl : (zSum.map cell).length = 32:=rfl;have e1 : (setH zeroE r.head).take 7 = [iv r.head 0,iv r.head 1,iv r.head 2,iv r.head 3,iv r.head 4,iv r.head 5,iv r.head 6]:=rfl
 have e2 : (setH zeroE r.head).drop (7 + r.sum.length) = [Value.int .i64 0,.bool false,.int .i64 0,.int .i64 0,.int .i64 0,.int .i64 0,.int .i64 0,.int .i64 0,.int .i64 0,.slice none 0 0]:=by rw [hs];rfl
 unfold cells0
 rw [e1,e2];generalize u8s r.sum = U at hu
 unfold setV
 simp only [List.append_assoc]
 simp [List.set_append,List.take_append,hu,iv]
 exact List.take_of_length_le (by omega)
theorem cells0_none {r : RawE} (hs : r.sum.length = 32) : (cells0 r.head r.sum r.vote).take 45 ++ [Value.int .i64 0,.int .i64 0,.int .i64 0,.slice none 0 0] = cells0 r.head r.sum r.vote:=by
 have hu : (u8s r.sum).length = 32:=by rw [← hs];exact List.length_map ..
 have e1 : (setH zeroE r.head).take 7 = [iv r.head 0,iv r.head 1,iv r.head 2,iv r.head 3,iv r.head 4,iv r.head 5,iv r.head 6]:=rfl
 have e2 : (setH zeroE r.head).drop (7 + r.sum.length) = [Value.int .i64 0,.bool false,.int .i64 0,.int .i64 0,.int .i64 0,.int .i64 0,.int .i64 0,.int .i64 0,.int .i64 0,.slice none 0 0]:=by rw [hs];rfl
 unfold cells0
 rw [e1,e2];generalize u8s r.sum = U at hu
 unfold setV
 simp only [List.append_assoc]
 simp [List.set_append,List.take_append,hu,iv]
 exact List.take_of_length_le (by omega)
end Go.Proofs.Ytilckocpgififaa.G
/- code.DecodeExt: bytes as an extrinsic, or refused (laid by mkdecext.py). -/
namespace Go.Proofs.Ytilckocpgififaa.G
open Go.Extern.Stop (cell)
open Go.RowKit Go.Shelf Go.Proofs.YtilckocpgififaaW.PrintWords Go.Proofs.YtilckocpgififaaW.PrintLast Go.Proofs.YtilckocpgififaaW.PrintMore Go.Proofs.Ytilckocpgififaa.PNum
set_option linter.unusedVariables false
set_option linter.unusedSimpArgs false
set_option maxRecDepth 100000 in
set_option maxHeartbeats 16000000 in
theorem decodeExt_calls (A : Option Addr) (c : Nat) (l : List Int) (w : World) (hC : Kd.C (Kd.int .u8) w A l.length l) (hc : l.length ≤ c) (hby : IsBytes l) (hsh : l.length < 140737488355328) :
 Calls Try.prog 21 #[.slice A l.length c] w fun e w'=>(∃ (x : Ext) (A' : Option Addr) (c' : Nat),e = .returned (.tuple #[.agg (x.cells A' c').toArray,.int .i64 (errOf (decE l))]) ∧ x.sum.length = 32 ∧ Kd.C k25 w' A' x.call.f3.length x.call.f3 ∧ x.call.f3.length ≤ c' ∧ x = (decE l).getD (ext0 0 0)) ∧ Below w.heap.size w w':=by
 obtain ⟨B,hBe⟩ : ∃ B,B = w.heap.size:=⟨_,rfl⟩;rw [← hBe];obtain ⟨Z,hZ⟩ : ∃ Z,Z = zeroE:=⟨_,rfl⟩;obtain ⟨ZC,hZC⟩ : ∃ ZC,ZC = zeroC:=⟨_,rfl⟩
 have hZl : Z.length = 49:=by rw [hZ];exact zeroE_length
 have hZo : ∀ v ∈ Z,v.oneCell' = true:=by rw [hZ];exact Ext.cells_one _ _ _
 have hZCl : ZC.length = 4:=by rw [hZC];rfl
 have HAL : Aside0 (∀ w,(zeroValue 33).run Try.prog w = .ok (.agg Z.toArray) w):=⟨fun w=>by rw [hZ];exact zero_ext w⟩;have HALC : Aside0 (∀ w,(zeroValue 25).run Try.prog w = .ok (.agg ZC.toArray) w):=⟨fun w=>by rw [hZC];exact zero_runC w⟩;have HBZ : Aside0 (∀ w,(Instr.build 33 #[]).run Try.prog w = .ok (.agg Z.toArray) w):=⟨fun w=>by rw [hZ];exact run_build w _ _ _ built_ext0⟩;have HZl:=am hZl;have HZo:=am hZo;have HZ:=am hZ;have HZCl:=am hZCl;have HC:=am hC;have Hc:=am hc;have Hby:=am hby;have Hsh:=am hsh;have HBe:=am hBe;have Hfar : Aside0 (∀ ad,A = some ad → 0 < l.length → ad.block < B):=⟨fun ad e hn=>by rw [hBe];subst e;exact Kd.C_lt hC hn (by decide)⟩;clear hZ hZC hZl hZCl hZo hC hc hby hsh hBe;go_enter Try.func21,Try.ntmps21
 go_upto_region 1 with ((with_reducible refine gate_dst (N:=2) rfl ?_);refine box_event ?hg (N:=2) ?hd (cs:=Z.toArray) (t:=33) ?hr ?_;(case hd=>rfl);(case hg=>rfl);(case hr=>first | (simp [execOp,Instr.alloc,HAL.out,HALC.out,newVar,newRow,go_sem];done) | (simp [execOp,Instr.alloc,HAL.out,HALC.out,newVar,newRow,go_sem];rfl) | (go_simp;done) | (go_simp;rfl));intro g2 hg_ w1 hbox_ hb_;have h2_ : Lies w1 g2 Z:=Lies.box hbox_;have G2:=am hg_;have L21:=am h2_;have B1:=am hb_;clear h2_;clear hg_ hbox_ hb_)
 go_upto_region 2 with ((with_reducible refine gate_dst (N:=13) rfl ?_);refine box_event ?hg (N:=13) ?hd (cs:=#[.slice A l.length c,.bool true]) (t:=73) ?hr ?_;(case hd=>rfl);(case hg=>rfl);(case hr=>first | (simp [execOp,Instr.alloc,HAL.out,HALC.out,newVar,newRow,go_sem];done) | (simp [execOp,Instr.alloc,HAL.out,HALC.out,newVar,newRow,go_sem];rfl) | (go_simp;done) | (go_simp;rfl));intro R hg_ w2 hbox_ hb_;have hr_ : Lies w2 R [.slice A l.length c,.bool true]:=Lies.box hbox_;have GR:=am hg_;have LR2:=am hr_;have B2:=am hb_;clear hr_;clear hg_ hbox_ hb_)
 go_upto_region 3 with (first
  | ((with_reducible refine gate_dst (N:=14) rfl ?_);refine Kd.event_run (v:= .agg Z.toArray) (w1:=w2) rfl (build_run0' rfl (HBZ.out w2)) ?_)
  | ((with_reducible refine gate_dst (N:=5) rfl ?_);refine box_event ?hg (N:=5) ?hd (cs:=Z.toArray) (t:=33) ?hr ?_;(case hd=>rfl);(case hg=>rfl);(case hr=>first | (simp [execOp,Instr.alloc,HAL.out,HALC.out,newVar,newRow,go_sem];done) | (simp [execOp,Instr.alloc,HAL.out,HALC.out,newVar,newRow,go_sem];rfl) | (go_simp;done) | (go_simp;rfl));intro g5 hg_ w3 hbox_ hb_;have hr_ : Lies w3 g5 Z:=Lies.box hbox_;have G5:=am hg_;have L53:=am hr_;have B3:=am hb_;clear hr_;clear hg_ hbox_ hb_)
  | ((with_reducible refine gate_store (t:=33) (p:=5) rfl ?_);refine wpList_store_mid rfl 33 _ _ rfl g5 0 Z.toArray rfl rfl (by rw [List.size_toArray];exact L53.out.there) (by rw [List.size_toArray,HZl.out];exact info_ext') (all_oneCell_toArray HZo.out) ?_))
 have s1:=B1.out.size;have s2:=B2.out.size;have s3:=B3.out.size;have g2lt : g2 < w1.heap.size:=L21.out.lt (by rw [HZl.out];decide);have Rlt : R < w2.heap.size:=LR2.out.lt (by simp);have g5lt : g5 < w3.heap.size:=L53.out.lt (by rw [HZl.out];decide);have e2:=G2.out;have eR:=GR.out;have e5:=G5.out;have eB:=HBe.out
 have n0_ : Lies (w3.setCells g5 0 Z) g5 Z:=by have:=L53.out.splice 0 Z (by omega);rwa [List.take_zero,List.nil_append,List.drop_of_length_le (by omega),List.append_nil] at this
 have k0_ : Kept (fun k=>k = g5) w3 (w3.setCells g5 0 Z):=kept_setCells g5 0 Z w3;have b0_ : Below B w (w3.setCells g5 0 Z):=below_setCells' g5 (by omega) Z 0 w3 (by rw [eB];exact below_step (below_step B1.out B2.out) B3.out);have m2_:=((L21.out.below B2.out g2lt).below B3.out (by omega)).kept k0_ (by rw [HZl.out];decide) (by show ¬ g2 = g5;omega);have mR_:=(LR2.out.below B3.out Rlt).kept k0_ (by simp) (by show ¬ R = g5;omega);have z4_ : w3.heap.size ≤ (w3.setCells g5 0 Z).heap.size:=k0_.size;generalize World.setCells _ _ _ _ = w4 at n0_ k0_ b0_ m2_ mR_ z4_ ⊢;have L54:=am n0_;have L24:=am m2_;have LR4:=am mR_;have B04:=am b0_;have Hlt4 : Aside0 (B ≤ g2 ∧ g2 < R ∧ R < g5 ∧ g5 < w4.heap.size ∧ B ≤ w4.heap.size):=⟨by omega,by omega,by omega,by omega,by omega⟩;clear n0_ k0_ b0_ m2_ mR_ z4_ s1 s2 s3 g2lt Rlt g5lt e2 eR e5 eB
 go_upto_region 4 with ((with_reducible refine gate_dst (N:=6) rfl ?_);refine box_event ?hg (N:=6) ?hd (cs:=#[.int .i64 0]) (t:=3) ?hr ?_;(case hd=>rfl);(case hg=>rfl);(case hr=>first | (simp [execOp,Instr.alloc,HAL.out,HALC.out,newVar,newRow,go_sem];done) | (simp [execOp,Instr.alloc,HAL.out,HALC.out,newVar,newRow,go_sem];rfl) | (go_simp;done) | (go_simp;rfl));intro gn hg_ w5 hbox_ hb_;have hr_ : Lies w5 gn [.int .i64 0]:=Lies.box hbox_;have GN:=am hg_;have LN5:=am hr_;have B5:=am hb_;have s8:=hr_.cell (i:=0) (v:= .int .i64 0) rfl;have f8:=hr_.frozen 0 (by simp);clear hr_;clear hg_ hbox_ hb_)
 have n0_ : Lies (w5.setCell ⟨gn,0,none⟩ (.int .i64 0)) gn [.int .i64 0]:=LN5.out.set 0 (by simp) _;have hln:=Hlt4.out;have egn:=GN.out;have gnlt : gn < w5.heap.size:=LN5.out.lt (by simp);have s5:=B5.out.size;have b0_ : Below B w (w5.setCell ⟨gn,0,none⟩ (.int .i64 0)):=(B04.out.trans (B5.out.mono (by omega))).setCell (p:=⟨gn,0,none⟩) (by show B ≤ gn;omega) _;have m2_:=(L24.out.below B5.out (by omega)).set_far (b:=gn) (by omega) 0 (.int .i64 0);have mR_:=(LR4.out.below B5.out (by omega)).set_far (b:=gn) (by omega) 0 (.int .i64 0);have m5_:=(L54.out.below B5.out (by omega)).set_far (b:=gn) (by omega) 0 (.int .i64 0)
 have z_ : (w5.setCell ⟨gn,0,none⟩ (.int .i64 0)).heap.size = w5.heap.size:=by rw [World.size_setCell]
 clear s8 f8;generalize World.setCell _ _ _ = w5a at n0_ b0_ m2_ mR_ m5_ z_ ⊢;have hC5 : Kd.C (Kd.int .u8) w5a A l.length l:=Kd.C_below HC.out (by rw [← HBe.out];exact b0_);have hra : ReadAt B w5a R g5 gn A c l true Z [.int .i64 0]:=⟨mR_,Hc.out,hC5,Hfar.out,Hby.out,Hsh.out,m5_,n0_,by omega,by omega,by omega,by omega,by omega,by omega,by rw [HZl.out];decide,by simp⟩;have HRA:=am hra;have L25:=am m2_;have B05:=am b0_;have Hlt : Aside0 (B ≤ g2 ∧ g2 < R ∧ R < g5 ∧ g5 < gn ∧ gn < w5a.heap.size ∧ B ≤ w5a.heap.size):=⟨by omega,by omega,by omega,by omega,by omega,by omega⟩;clear n0_ b0_ m2_ mR_ m5_ z_ hC5 hra hln egn gnlt s5 Hlt4
 go_upto_region 5 with (first
  | ((with_reducible refine gate_dst (N:=23) rfl ?_);refine slice_event' ?hg (N:=23) ?hd (cs:=#[.pointer (some ⟨g5,0,none⟩),.pointer (some ⟨g5,1,none⟩),.pointer (some ⟨g5,2,none⟩),.pointer (some ⟨g5,3,none⟩),.pointer (some ⟨g5,4,none⟩),.pointer (some ⟨g5,5,none⟩),.pointer (some ⟨g5,6,none⟩)]) (t:=75) (n:=7) (c:=7) ?hr ?_;(case hd=>rfl);(case hg=>rfl);(case hr=>first | (go_simp;done) | (go_simp;rfl));intro gp hg_ w5b hbox_ hb_;have hpc_:=places7_cells (gn:=gn) hbox_;have hpl_:=blk_lt hbox_;have HPC:=am hpc_;have HPL:=am hpl_;have GP:=am hg_;have B5b:=am hb_;clear hg_ hbox_ hb_ hpc_ hpl_)
  | (go_at_call 43;go_loud (have hN_:=(nums_calls B R g5 gn gp 7 places7 A c l true Z [.int .i64 0] w5b (HRA.out.below B5b.out) (places7_in HZl.out) HPC.out ⟨HPL.out,by have:=GP.out;have:=Hlt.out;omega,by have:=GP.out;have:=Hlt.out;omega,by have:=GP.out;have:=Hlt.out;omega⟩ (by decide));rw [show places7.length = 7 from rfl] at hN_;with_reducible refine hN_.mono ?_;clear hN_;rintro e w6 ⟨rfl,⟨A6,c6,hr_⟩,hk_⟩;rw [HZ.out,numsW_7] at hr_;have HR6:=am hr_;have HK6:=am hk_;clear hr_ hk_)))
 have L26:=am ((L25.out.below B5b.out (by have:=Hlt.out;omega)).kept HK6.out (by rw [HZl.out];decide) (fun hk=>by have:=Hlt.out;rcases hk with hk | hk | hk <;> omega));have B06:=am (HK6.out.to_below (B05.out.trans (B5b.out.mono (by have:=Hlt.out;omega))) (by have:=Hlt.out;have:=B5b.out.size;omega) (fun k hk=>by have:=Hlt.out;rcases hk with hk | hk | hk <;> omega));have S6 : Aside0 (w5a.heap.size ≤ w6.heap.size):=⟨Nat.le_trans B5b.out.size HK6.out.size⟩;clear HRA HPC HPL GP HK6 B5b B05 L25 HC Hfar
 go_upto_region 6 with (go_at_call 44;go_loud (with_reducible refine (raw_calls B R g5 gn 7 32 A6 c6 (numsP 7 l).2.1 (numsP 7 l).2.2 (setH zeroE (numsP 7 l).1) [.int .i64 0] w6 HR6.out (by rw [setH_length,zeroE_length];decide)).mono ?_;rintro e w7 ⟨rfl,⟨A7,c7,hr_⟩,hk_⟩;have HR7:=am hr_;have HK7:=am hk_;clear hr_ hk_))
 have L27:=am (L26.out.kept HK7.out (by rw [HZl.out];decide) (fun hk=>by have:=Hlt.out;rcases hk with hk | hk | hk <;> omega));have B07:=am (HK7.out.to_below B06.out (by have:=Hlt.out;have:=S6.out;omega) (fun k hk=>by have:=Hlt.out;rcases hk with hk | hk | hk <;> omega));have S7 : Aside0 (w5a.heap.size ≤ w7.heap.size):=⟨Nat.le_trans S6.out HK7.out.size⟩;clear HR6 HK7 B06 L26 S6;obtain ⟨r,hr⟩ : ∃ r,r = (partsE l).1:=⟨_,rfl⟩;obtain ⟨wh,hwh⟩ : ∃ wh,wh = (partsE l).2:=⟨_,rfl⟩;obtain ⟨y,hy⟩ : ∃ y,y = at0 r.vote 5:=⟨_,rfl⟩;obtain ⟨LX,hLX⟩ : ∃ LX,LX = cells0 r.head r.sum r.vote:=⟨_,rfl⟩
 have h32 : r.sum.length ≤ 32:=by rw [hr,parts_sum];exact List.length_take_le _ _
 have HLX : Aside0 (LX.length = 49):=⟨by rw [hLX];exact cells0_length _ _ _ h32⟩;obtain ⟨LA,hLA⟩ : ∃ LA,LA = (setH zeroE (numsP 7 l).1).take 7 ++ u8s ((numsP 7 l).2.1.take 32) ++ (setH zeroE (numsP 7 l).1).drop (7 + ((numsP 7 l).2.1.take 32).length):=⟨_,rfl⟩
 have hLAV : setV LA r.vote = LX:=by rw [hLA,hLX,hr,parts_head,parts_sum,parts_vote,cells0]
 have HLAl : Aside0 (LA.length = 49):=⟨by rw [← HLX.out,← hLAV,setV_length]⟩;obtain ⟨lb,hlb⟩ : ∃ lb,lb = (numsP 7 l).2.1.drop 32:=⟨_,rfl⟩;obtain ⟨okb,hokb⟩ : ∃ okb,okb = ((numsP 7 l).2.2 && decide (32 ≤ (numsP 7 l).2.1.length)):=⟨_,rfl⟩
 have hvote : (numsP 6 lb).1 = r.vote:=by rw [hr,hlb,parts_vote]
 have hrest : (rowT (numsP 6 lb).2.1).1 = r.row:=by rw [hr,hlb,parts_row]
 have hwhole0 : (((okb && (numsP 6 lb).2.2) && (rowT (numsP 6 lb).2.1).2.2) && decide (((numsP 6 lb).2.1.drop (rowT (numsP 6 lb).2.1).2.1).length = 0)) = wh:=by rw [hwh,hlb,hokb,parts_ok]
 have hra7:=HR7.out;rw [← hLA,← hlb,← hokb] at hra7;clear HR7;have HR7:=am hra7;have HVO:=am hvote;have HRE:=am hrest;have HWO:=am hwhole0;have HLAV:=am hLAV;have Hr:=am hr;have Hwh:=am hwh;have Hy:=am hy;have HLXe:=am hLX;clear hr hwh hy hLX h32 hLA hLAV hlb hokb hvote hrest hwhole0 hra7
 go_upto_region 7 with (first
  | ((with_reducible refine gate_dst (N:=40) rfl ?_);refine slice_event' ?hg (N:=40) ?hd (cs:=#[.pointer (some ⟨g5,39,none⟩),.pointer (some ⟨g5,42,none⟩),.pointer (some ⟨g5,43,none⟩),.pointer (some ⟨g5,44,none⟩),.pointer (some ⟨g5,41,none⟩),.pointer (some ⟨gn,0,none⟩)]) (t:=75) (n:=6) (c:=6) ?hr ?_;(case hd=>rfl);(case hg=>rfl);(case hr=>first | (go_simp;done) | (go_simp;rfl));intro gp hg_ w7b hbox_ hb_;have hpc_:=places6_cells (gn:=gn) hbox_;have hpl_:=blk_lt hbox_;have HPC:=am hpc_;have HPL:=am hpl_;have GP:=am hg_;have B7b:=am hb_;clear hg_ hbox_ hb_ hpc_ hpl_)
  | (go_at_call 43;go_loud (have hN_:=(nums_calls B R g5 gn gp 6 places6 A7 c7 lb okb LA [.int .i64 0] w7b (HR7.out.below B7b.out) (places6_in HLAl.out rfl) HPC.out ⟨HPL.out,by have:=GP.out;have:=Hlt.out;have:=S7.out;omega,by have:=GP.out;have:=Hlt.out;have:=S7.out;omega,by have:=GP.out;have:=Hlt.out;have:=S7.out;omega⟩ (by decide));rw [show places6.length = 6 from rfl] at hN_;with_reducible refine hN_.mono ?_;clear hN_;rintro e w8 ⟨rfl,⟨A8,c8,hr_⟩,hk_⟩;rw [numsW_6,HVO.out,HLAV.out] at hr_;have HR8:=am hr_;have HK8:=am hk_;clear hr_ hk_)))
 have L28:=am ((L27.out.below B7b.out (by have:=Hlt.out;have:=S7.out;omega)).kept HK8.out (by rw [HZl.out];decide) (fun hk=>by have:=Hlt.out;rcases hk with hk | hk | hk <;> omega));have B08:=am (HK8.out.to_below (B07.out.trans (B7b.out.mono (by have:=Hlt.out;have:=S7.out;omega))) (by have:=Hlt.out;have:=S7.out;have:=B7b.out.size;omega) (fun k hk=>by have:=Hlt.out;rcases hk with hk | hk | hk <;> omega));have S8 : Aside0 (w5a.heap.size ≤ w8.heap.size):=⟨Nat.le_trans S7.out (Nat.le_trans B7b.out.size HK8.out.size)⟩
 have hr8 : ReadAt B w8 R g5 gn A8 c8 (numsP 6 lb).2.1 (okb && (numsP 6 lb).2.2) LX [.int .i64 y]:=by
  have h:=HR8.out;rw [Hy.out];exact h
 have hrow:=row_calls B R g5 gn A8 c8 _ _ LX [.int .i64 y] w8 hr8;have hp:=HRE.out
 have hby8 : IsBytes r.row ∧ r.row.length < 140737488355328:=by
  have h1:=rowT_size hr8.bytes;rw [hp] at h1;exact ⟨h1.2.2,Nat.lt_of_le_of_lt h1.2.1 hr8.short⟩
 rw [hp] at hrow;have hw9:=HWO.out;obtain ⟨l9,hl9⟩ : ∃ l9,l9 = (numsP 6 lb).2.1.drop (rowT (numsP 6 lb).2.1).2.1:=⟨_,rfl⟩;obtain ⟨ok9,hok9⟩ : ∃ ok9,ok9 = ((okb && (numsP 6 lb).2.2) && (rowT (numsP 6 lb).2.1).2.2):=⟨_,rfl⟩;rw [← hl9,← hok9] at hrow hw9;obtain ⟨p,hpe⟩ : ∃ p,p = r.row:=⟨_,rfl⟩;rw [← hpe] at hrow hby8;have HROW:=am hrow;have HP:=am hpe;have Hby8:=am hby8;have HW9:=am hw9;clear hr8 hrow hp hl9 hok9 hw9 hpe hby8 HR7 HR8 HK8 HPC HPL GP B7b B07 L27 S7
 go_upto_region 8 with (go_at_call 45;go_loud (with_reducible refine HROW.out.mono ?_;rintro e w9 ⟨⟨A1,c1,rfl,hc1_,hC1_,hf1_⟩,⟨A9,c9,hr_⟩,hk_⟩;have HC1:=am hc1_;have HCP:=am hC1_;have HR9:=am hr_;have HK9:=am hk_;clear hc1_ hC1_ hf1_ hr_ hk_))
 have L29:=am (L28.out.kept HK9.out (by rw [HZl.out];decide) (by show ¬ g2 = R;have:=Hlt.out;omega));have B09:=am (HK9.out.to_below B08.out (by have:=Hlt.out;have:=S8.out;omega) (fun k hk=>by have:=Hlt.out;have hk' : k = R:=hk;omega));have S9 : Aside0 (w5a.heap.size ≤ w9.heap.size):=⟨Nat.le_trans S8.out HK9.out.size⟩;have hwhole:=whole_calls B R g5 gn A9 c9 l9 ok9 LX [.int .i64 y] w9 HR9.out;rw [HW9.out] at hwhole;have HWH:=am hwhole;obtain ⟨fy,hfy⟩ : ∃ fy,decide (y = 1) = fy:=⟨_,rfl⟩
 have dy : (y == 1) = fy:=by rw [beq_dec,hfy]
 have sN9:=HR9.out.two.cell (i:=0) (v:= .int .i64 y) rfl
 have hde : decE l = decR r wh p:=by rw [HP.out,Hwh.out,Hr.out];exact decE_eq l
 have HDE0:=am hde;have HFY:=am hfy;clear hwhole HROW HK9 L28 B08 S8 hde
 have hsz9 : g2 < w9.heap.size ∧ g5 < w9.heap.size:=by have:=Hlt.out;have:=S9.out;omega
 have Hsz9:=am hsz9;clear hsz9
 by_cases hok : okR r wh = true
 rotate_left
 ·have HD : Aside0 (decE l = none):=⟨HDE0.out.trans (decR_no hok)⟩
  have hok2 : (wh && decide (y ≤ 1)) = false:=by have:=Bool.eq_false_iff.2 hok;rw [Hy.out];exact this
  clear hok
  cases wh with
  | false=>
    have sN:=HR9.out.two.cell (i:=0) (v:= .int .i64 y) rfl;obtain ⟨uY,huY⟩ : ∃ u,LX[40]? = some u:=⟨_,List.getElem?_eq_getElem (by rw [HLX.out];decide)⟩;have cY:=HR9.out.one.cell huY;have fY:=HR9.out.one.frozen 40 (by rw [HLX.out];decide)
    go_upto_region 14 with ((go_at_call 46;go_loud (with_reducible refine HWH.out.mono ?_;rintro e w9x ⟨rfl,hw_⟩;have hw2_:=hw_.symm;clear hw_;subst hw2_)))
    have m2_:=L29.out.set_far (b:=g5) (by have:=Hlt.out;omega) 40 (.bool fy);have b_:=B09.out.setCell (p:=⟨g5,40,none⟩) (by show B ≤ g5;have:=Hlt.out;omega) (.bool fy);clear sN cY fY huY;generalize World.setCell _ _ _ = w13 at m2_ b_ ⊢;have L213:=am m2_;have B13:=am b_;clear m2_ b_
    go_wp2_with (first
     | ((with_reducible refine gate_dst (N:=76) rfl ?_);refine Kd.event_run (v:= .agg Z.toArray) (w1:=w13) rfl (build_run0' rfl (HBZ.out w13)) ?_)
     | ((with_reducible refine gate_store (t:=33) (p:=2) rfl ?_);refine wpList_store_mid rfl 33 _ _ rfl g2 0 Z.toArray rfl rfl (by rw [List.size_toArray];exact L213.out.there) (by rw [List.size_toArray,HZl.out];exact info_ext') (all_oneCell_toArray HZo.out) ?_))
    have BR:=World.rangeAt_setCells_same w13 g2 0 Z L213.out.there;have hres:=run_loadVar_mid (P:=Try.prog) (w13.setCells g2 0 Z) g2 0 33 Z _ BR Try.underlying33 rfl (by rw [HZl.out];exact info_ext');refine bodyPost_ret (results_cell_tmp rfl _ rfl hres) rfl ?_;refine ⟨⟨ext0 0 0,none,0,?_,rfl,Kd.C_nil _ _,Nat.le_refl _,?_⟩,below_setCells' g2 (by have:=Hlt.out;omega) Z 0 w13 B13.out⟩
    ·rw [HD.out,show (ext0 0 0).cells none 0 = Z from HZ.out.symm];rfl
    ·rw [HD.out];rfl
  | true=>
    have hy1 : decide (y ≤ 1) = false:=hok2;have sN:=HR9.out.two.cell (i:=0) (v:= .int .i64 y) rfl;obtain ⟨uY,huY⟩ : ∃ u,LX[40]? = some u:=⟨_,List.getElem?_eq_getElem (by rw [HLX.out];decide)⟩;have cY:=HR9.out.one.cell huY;have fY:=HR9.out.one.frozen 40 (by rw [HLX.out];decide)
    go_upto_region 14 with ((go_at_call 46;go_loud (with_reducible refine HWH.out.mono ?_;rintro e w9x ⟨rfl,hw_⟩;have hw2_:=hw_.symm;clear hw_;subst hw2_)))
    have m2_:=L29.out.set_far (b:=g5) (by have:=Hlt.out;omega) 40 (.bool fy);have b_:=B09.out.setCell (p:=⟨g5,40,none⟩) (by show B ≤ g5;have:=Hlt.out;omega) (.bool fy);clear sN cY fY huY;generalize World.setCell _ _ _ = w13 at m2_ b_ ⊢;have L213:=am m2_;have B13:=am b_;clear m2_ b_
    go_wp2_with (first
     | ((with_reducible refine gate_dst (N:=76) rfl ?_);refine Kd.event_run (v:= .agg Z.toArray) (w1:=w13) rfl (build_run0' rfl (HBZ.out w13)) ?_)
     | ((with_reducible refine gate_store (t:=33) (p:=2) rfl ?_);refine wpList_store_mid rfl 33 _ _ rfl g2 0 Z.toArray rfl rfl (by rw [List.size_toArray];exact L213.out.there) (by rw [List.size_toArray,HZl.out];exact info_ext') (all_oneCell_toArray HZo.out) ?_))
    have BR:=World.rangeAt_setCells_same w13 g2 0 Z L213.out.there;have hres:=run_loadVar_mid (P:=Try.prog) (w13.setCells g2 0 Z) g2 0 33 Z _ BR Try.underlying33 rfl (by rw [HZl.out];exact info_ext');refine bodyPost_ret (results_cell_tmp rfl _ rfl hres) rfl ?_;refine ⟨⟨ext0 0 0,none,0,?_,rfl,Kd.C_nil _ _,Nat.le_refl _,?_⟩,below_setCells' g2 (by have:=Hlt.out;omega) Z 0 w13 B13.out⟩
    ·rw [HD.out,show (ext0 0 0).cells none 0 = Z from HZ.out.symm];rfl
    ·rw [HD.out];rfl
 have hok2:=hok
 unfold okR at hok2
 rw [Bool.and_eq_true] at hok2;obtain ⟨rfl,hy1⟩:=hok2;rw [← Hy.out] at hy1;have HOK:=am hok;have hparts:=parts_tells Hby.out Hwh.out.symm;rw [← Hr.out] at hparts;have H32s : Aside0 (r.sum.length = 32 ∧ IsBytes r.sum):=⟨hparts.2.1,hparts.2.2.1⟩;clear hok hparts
 by_cases hp0 : p.length > 0
 rotate_left
 ·have dp : decide ((p.length : Int) > 0) = false:=decide_eq_false (by omega);have dp2 : decide ((0 : Int) < (p.length : Int)) = false:=decide_eq_false (by omega);have dp3 : decide (0 < p.length) = false:=decide_eq_false (by omega)
  have hp1 : ¬ 0 < p.length:=by omega
  have hCD : callD p = some z25:=by unfold callD;rw [if_neg hp0]
  obtain ⟨cc,hcc⟩ : ∃ cc,cc = z25:=⟨_,rfl⟩;obtain ⟨A3,hA3⟩ : ∃ A3 : Option Addr,A3 = none:=⟨_,rfl⟩;obtain ⟨n3,hn3⟩ : ∃ n3 : Nat,n3 = 0:=⟨_,rfl⟩;obtain ⟨LE,hLE⟩ : ∃ LE,LE = (toE r cc).cells A3 n3:=⟨_,rfl⟩
  have heq : LX.set 40 (.bool fy) = LE:=by
   have h0:=cells0_none (r:=r) H32s.out.1;have h1:=cells0_call H32s.out.1 H32s.out.2 z25 none 0;rw [HLXe.out,← HFY.out,Hy.out,hLE,hcc,hA3,hn3,← h1]
   congr 1
   exact h0.symm
  have H32 : Aside0 ((toE r cc).sum.length = 32):=⟨by show (bytesU r.sum).length = 32;rw [← H32s.out.1];exact List.length_map ..⟩;have HLEl : Aside0 (LE.length = 49):=⟨by rw [hLE];exact Ext.cells_length _ _ _ H32.out⟩;have HLE:=am hLE;have HEQ:=am heq;have HDE : Aside0 (decE l = if isExtP (toE r cc) = true then some (toE r cc) else none):=⟨by rw [hcc];exact HDE0.out.trans (decR_some HOK.out hCD)⟩;have Hn3 : Aside0 (cc.f3.length ≤ n3):=⟨by rw [hcc,hn3];exact Nat.le_refl _⟩;have HCEa : Aside0 (∀ W,Kd.C k25 W A3 cc.f3.length cc.f3):=⟨fun W=>by rw [hcc,hA3];exact Kd.C_nil _ _⟩;clear hCD hcc hA3 hn3 hLE heq hp0;have sN:=HR9.out.two.cell (i:=0) (v:= .int .i64 y) rfl;obtain ⟨uY,huY⟩ : ∃ u,LX[40]? = some u:=⟨_,List.getElem?_eq_getElem (by rw [HLX.out];decide)⟩;have cY:=HR9.out.one.cell huY;have fY:=HR9.out.one.frozen 40 (by rw [HLX.out];decide)
  go_upto_region 13 with ((go_at_call 46;go_loud (with_reducible refine HWH.out.mono ?_;rintro e w9x ⟨rfl,hw_⟩;have hw2_:=hw_.symm;clear hw_;subst hw2_)))
  have m2_:=L29.out.set_far (b:=g5) (by have:=Hlt.out;omega) 40 (.bool fy);have m5_:=HR9.out.one.set 40 (by rw [HLX.out];decide) (.bool fy);have b_:=B09.out.setCell (p:=⟨g5,40,none⟩) (by show B ≤ g5;have:=Hlt.out;omega) (.bool fy);have k_ : Kept (fun k=>k = g2 ∨ k = g5) w9 (World.setCell w9 ⟨g5,40,none⟩ (.bool fy)):=(Kept.refl _ _).set (.inr rfl) 40 _
  have z_ : (World.setCell w9 ⟨g5,40,none⟩ (.bool fy)).heap.size = w9.heap.size:=by rw [World.size_setCell]
  have zz_ : w9.heap.size ≤ w9.heap.size:=Nat.le_refl _;rw [HEQ.out] at m5_;clear sN cY fY huY;generalize World.setCell _ _ _ = w12 at m2_ m5_ b_ k_ z_ ⊢;have L212:=am m2_;have L512:=am m5_;have B12:=am b_;have K12:=am k_;have Hsz : Aside0 (w9.heap.size ≤ w12.heap.size):=⟨by omega⟩;clear m2_ m5_ b_ k_ z_ zz_;have HCE : Aside0 (∀ W,Kept (fun k=>k = g2 ∨ k = g5) w12 W → Kd.C k25 W A3 cc.f3.length cc.f3):=⟨fun W _=>HCEa.out W⟩;obtain ⟨rr,hrr⟩ : ∃ rr,isExtP (toE r cc) = rr:=⟨_,rfl⟩;have HALL : Aside0 (∀ W,Kd.C k25 W A3 cc.f3.length cc.f3 → Calls Try.prog 14 #[.agg LE.toArray] W fun e w'=>e = .returned (.bool rr) ∧ Below W.heap.size W w'):=⟨fun W hC=>by rw [HLE.out,← hrr];exact code_IsExt.all (toE r cc) A3 n3 W H32.out hC Hn3.out⟩;have HCE0:=am (HCE.out w12 (Kept.refl _ _));have HDR : Aside0 (decE l = if rr = true then some (toE r cc) else none):=⟨by rw [HDE.out,hrr]⟩;clear hrr
  cases rr with
  | false=>
    have HD : Aside0 (decE l = none):=⟨HDR.out⟩
    go_upto_region 14 with (first | ((with_reducible refine gate_dst (N:=72) rfl ?_);(try (refine gate_guard (by rfl) ?_;dsimp only));refine wpList_load_mid rfl 33 _ rfl g5 0 rfl LE _ L512.out.range Try.underlying33 rfl (by rw [HLEl.out];exact info_ext') ?_) | (go_at_call 14;go_loud (with_reducible refine (HALL.out w12 HCE0.out).mono ?_;rintro e w14 ⟨rfl,hb_⟩;have B14:=am hb_;clear hb_)))
    have L214:=am (L212.out.below B14.out (by have:=Hlt.out;have:=Hsz.out;have:=S9.out;omega));have B014:=am (B12.out.trans (B14.out.mono (by have:=B12.out.size;have:=HBe.out;omega)))
    go_wp2_with (first
     | ((with_reducible refine gate_dst (N:=76) rfl ?_);refine Kd.event_run (v:= .agg Z.toArray) (w1:=w14) rfl (build_run0' rfl (HBZ.out w14)) ?_)
     | ((with_reducible refine gate_store (t:=33) (p:=2) rfl ?_);refine wpList_store_mid rfl 33 _ _ rfl g2 0 Z.toArray rfl rfl (by rw [List.size_toArray];exact L214.out.there) (by rw [List.size_toArray,HZl.out];exact info_ext') (all_oneCell_toArray HZo.out) ?_))
    have BR:=World.rangeAt_setCells_same w14 g2 0 Z L214.out.there;have hres:=run_loadVar_mid (P:=Try.prog) (w14.setCells g2 0 Z) g2 0 33 Z _ BR Try.underlying33 rfl (by rw [HZl.out];exact info_ext');refine bodyPost_ret (results_cell_tmp rfl _ rfl hres) rfl ?_;refine ⟨⟨ext0 0 0,none,0,?_,rfl,Kd.C_nil _ _,Nat.le_refl _,?_⟩,below_setCells' g2 (by have:=Hlt.out;omega) Z 0 w14 B014.out⟩
    ·rw [HD.out,show (ext0 0 0).cells none 0 = Z from HZ.out.symm];rfl
    ·rw [HD.out];rfl
  | true=>
    have HD : Aside0 (decE l = some (toE r cc)):=⟨HDR.out⟩
    go_upto_region 15 with (first | ((with_reducible refine gate_dst (N:=72) rfl ?_);(try (refine gate_guard (by rfl) ?_;dsimp only));refine wpList_load_mid rfl 33 _ rfl g5 0 rfl LE _ L512.out.range Try.underlying33 rfl (by rw [HLEl.out];exact info_ext') ?_) | (go_at_call 14;go_loud (with_reducible refine (HALL.out w12 HCE0.out).mono ?_;rintro e w14 ⟨rfl,hb_⟩;have B14:=am hb_;clear hb_)))
    have L214:=am (L212.out.below B14.out (by have:=Hlt.out;have:=Hsz.out;have:=S9.out;omega));have L514:=am (L512.out.below B14.out (by have:=Hlt.out;have:=Hsz.out;have:=S9.out;omega));have B014:=am (B12.out.trans (B14.out.mono (by have:=B12.out.size;have:=HBe.out;omega)))
    go_wp2_with (first
     | ((with_reducible refine gate_dst (N:=77) rfl ?_);refine wpList_load_mid rfl 33 _ rfl g5 0 rfl LE _ L514.out.range Try.underlying33 rfl (by rw [HLEl.out];exact info_ext') ?_)
     | ((with_reducible refine gate_store (t:=33) (p:=2) rfl ?_);refine wpList_store_mid rfl 33 _ _ rfl g2 0 LE.toArray rfl rfl (by rw [List.size_toArray,HLEl.out,← HZl.out];exact L214.out.there) (by rw [List.size_toArray,HLEl.out];exact info_ext') (all_oneCell_toArray (by rw [HLE.out];exact Ext.cells_one _ _ _)) ?_))
    have BR:=World.rangeAt_setCells_same w14 g2 0 LE (by rw [HLEl.out,← HZl.out];exact L214.out.there);have hres:=run_loadVar_mid (P:=Try.prog) (w14.setCells g2 0 LE) g2 0 33 LE _ BR Try.underlying33 rfl (by rw [HLEl.out];exact info_ext');refine bodyPost_ret (results_cell_tmp rfl _ rfl hres) rfl ?_;have hk_ : Kept (fun k=>k = g2 ∨ k = g5) w12 (w14.setCells g2 0 LE):=((Kept.of_below B14.out).step (kept_setCells g2 0 LE w14)).mono (fun k h=> .inl h);refine ⟨⟨toE r cc,A3,n3,?_,H32.out,HCE.out _ hk_,Hn3.out,?_⟩,below_setCells' g2 (by have:=Hlt.out;omega) LE 0 w14 B014.out⟩
    ·rw [HD.out,← HLE.out];rfl
    ·rw [HD.out];rfl
 have dp : decide ((p.length : Int) > 0) = true:=decide_eq_true (by omega);have dp2 : decide ((0 : Int) < (p.length : Int)) = true:=decide_eq_true (by omega);have dp3 : decide (0 < p.length) = true:=decide_eq_true (by omega)
 have hp1 : 0 < p.length:=by omega
 have hp2 : p ≠ []:=fun e=>by rw [e] at hp1;exact absurd hp1 (by decide)
 have HCD : Aside0 (callD p = decF p):=⟨by unfold callD;rw [if_pos hp0]⟩;obtain ⟨er,her⟩ : ∃ er,errOf (decF p) = er:=⟨_,rfl⟩;have hdc:=decode_calls A1 c1 p w9 HCP.out HC1.out Hby8.out.1 Hby8.out.2;rw [her] at hdc;have HDC:=am hdc;have HER:=am her;clear hp0 her hdc
 go_upto_region 10 with (go_at_call 46;go_loud (with_reducible refine HWH.out.mono ?_;rintro e w9x ⟨rfl,hw_⟩;have hw2_:=hw_.symm;clear hw_;subst hw2_))
 clear sN9
 go_upto_region 11 with (first
  | (go_at_call 25;go_loud (with_reducible refine HDC.out.mono ?_;rintro e w10 ⟨⟨L4,rfl,hl_,ho_,hM_⟩,hb_⟩;have HL4:=am hl_;have HL4o:=am ho_;have HM:=am hM_;have B10:=am hb_;clear hl_ ho_ hM_ hb_))
  | ((with_reducible refine gate_dst (N:=9) rfl ?_);refine box_event ?hg (N:=9) ?hd (cs:=ZC.toArray) (t:=25) ?hr ?_;(case hd=>rfl);(case hg=>rfl);(case hr=>first | (simp [execOp,Instr.alloc,HAL.out,HALC.out,newVar,newRow,go_sem];done) | (simp [execOp,Instr.alloc,HAL.out,HALC.out,newVar,newRow,go_sem];rfl) | (go_simp;done) | (go_simp;rfl));intro g9 hg_ w11 hbox_ hb_;have hr_ : Lies w11 g9 ZC:=Lies.box hbox_;have G9:=am hg_;have L911:=am hr_;have B11:=am hb_;clear hr_;clear hg_ hbox_ hb_)
  | ((with_reducible refine gate_store (t:=25) (p:=9) rfl ?_);refine wpList_store_mid rfl 25 _ _ rfl g9 0 L4.toArray rfl rfl (by rw [List.size_toArray,HL4.out,← HZCl.out];exact L911.out.there) (by rw [List.size_toArray,HL4.out];exact info_call) (all_oneCell_toArray HL4o.out) ?_))
 have s10:=B10.out.size;have s11:=B11.out.size;have e9:=G9.out;have hsz9:=Hsz9.out;have hltx:=Hlt.out;have hs9:=S9.out;have g9lt : g9 < w11.heap.size:=L911.out.lt (by rw [HZCl.out];decide)
 have n9_ : Lies (w11.setCells g9 0 L4) g9 L4:=by have:=L911.out.splice 0 L4 (by rw [HL4.out,HZCl.out];decide);rwa [List.take_zero,List.nil_append,List.drop_of_length_le (by rw [HL4.out,HZCl.out];decide),List.append_nil] at this
 have k_ : Kept (fun k=>k = g9) w11 (w11.setCells g9 0 L4):=kept_setCells g9 0 L4 w11;have r_:=((HR9.out.below B10.out).below B11.out).kept k_ (fun k hk=>by have hk' : k = g9:=hk;omega) (by show ¬ R = g9;omega) (by show ¬ g5 = g9;omega) (by show ¬ gn = g9;omega);have m2_:=((L29.out.below B10.out (by omega)).below B11.out (by omega)).kept k_ (by rw [HZl.out];decide) (by show ¬ g2 = g9;omega);have b_ : Below B w (w11.setCells g9 0 L4):=below_setCells' g9 (by omega) L4 0 w11 ((B09.out.trans (B10.out.mono (by omega))).trans (B11.out.mono (by omega)))
 have hM_ : k25.M (w11.setCells g9 0 L4) w9.heap.size (fun k=>w9.heap.size ≤ k ∧ k < w10.heap.size) ((decF p).getD z25) L4:=
  Kd.M_step (Kd.M_below (k25.M_mono (fun k h=>⟨h.2.1,h.2.2.1⟩) (k25.M_bound HM.out)) B11.out) (fun k ho hl=>k_.block k hl (by show ¬ k = g9;omega))
 have z_ : w11.heap.size ≤ (w11.setCells g9 0 L4).heap.size:=k_.size;generalize World.setCells _ _ _ _ = w11a at n9_ k_ r_ m2_ b_ hM_ z_ ⊢;have L9a:=am n9_;have HRa:=am r_;have L2a:=am m2_;have B0a:=am b_;have HMa:=am hM_;have Hsza : Aside0 (w9.heap.size ≤ w11a.heap.size):=⟨by omega⟩;clear n9_ k_ r_ m2_ b_ hM_ z_ s10 s11 e9 hsz9 hltx hs9 g9lt HM;obtain ⟨fe,hfe⟩ : ∃ fe,(er == 0) = fe:=⟨_,rfl⟩;have HFE:=am hfe
 go_upto_region 12 with (first
  | ((with_reducible refine gate_dst (N:=61) rfl ?_);refine wpList_load_mid rfl 25 _ rfl g9 0 rfl L4 _ L9a.out.range Try.underlying25 rfl (by rw [HL4.out];exact info_call) ?_)
  | ((with_reducible refine gate_store (t:=25) (p:=64) rfl ?_);refine wpList_store_mid rfl 25 _ _ rfl g5 45 L4.toArray rfl rfl (by rw [List.size_toArray,HL4.out];exact HRa.out.one.part_there 45 4 (by rw [HLX.out];decide)) (by rw [List.size_toArray,HL4.out];exact info_call) (all_oneCell_toArray HL4o.out) ?_))
 have hltx:=Hlt.out;have hs9:=S9.out;obtain ⟨LQ,hLQ⟩ : ∃ LQ,LQ = LX.take 45 ++ L4:=⟨_,rfl⟩;have HLQl : Aside0 (LQ.length = 49):=⟨by rw [hLQ,List.length_append,List.length_take,HLX.out,HL4.out];rfl⟩
 have r_ : ReadAt B (w11a.setCells g5 45 L4) R g5 gn A9 c9 l9 ok9 LQ [.int .i64 y]:=by
  have:=HRa.out.splice 45 L4 (by rw [HLX.out,HL4.out];decide);rwa [List.drop_of_length_le (by rw [HLX.out,HL4.out];decide),List.append_nil,← hLQ] at this
 have k_ : Kept (fun k=>k = g5) w11a (w11a.setCells g5 45 L4):=kept_setCells g5 45 L4 w11a;have m2_:=L2a.out.kept k_ (by rw [HZl.out];decide) (by show ¬ g2 = g5;omega);have b_ : Below B w (w11a.setCells g5 45 L4):=below_setCells' g5 (by omega) L4 45 w11a B0a.out;have hM_ : k25.M (w11a.setCells g5 45 L4) w9.heap.size (fun k=>w9.heap.size ≤ k ∧ k < w10.heap.size) ((decF p).getD z25) L4:=Kd.M_step HMa.out (fun k ho hl=>k_.block k hl (by show ¬ k = g5;omega));have z_ : w11a.heap.size ≤ (w11a.setCells g5 45 L4).heap.size:=k_.size;generalize World.setCells _ _ _ _ = w11b at r_ k_ m2_ b_ hM_ z_ ⊢;have HRb:=am r_;have L2b:=am m2_;have B0b:=am b_;have HMb:=am hM_;have HLQ:=am hLQ;have Hszb : Aside0 (w9.heap.size ≤ w11b.heap.size):=⟨Nat.le_trans Hsza.out z_⟩;clear r_ k_ m2_ b_ hM_ z_ hltx hs9 hLQ HRa HMa L2a B0a L9a
 cases hdf : decF p with
 | none=>
   have hfe2 : fe = false:=by rw [← HFE.out,← HER.out,hdf];rfl
   have HD : Aside0 (decE l = none):=⟨HDE0.out.trans (decR_none HOK.out (HCD.out.trans hdf))⟩;subst hfe2;clear hdf;have sN:=HRb.out.two.cell (i:=0) (v:= .int .i64 y) rfl;obtain ⟨uY,huY⟩ : ∃ u,LQ[40]? = some u:=⟨_,List.getElem?_eq_getElem (by rw [HLQl.out];decide)⟩;have cY:=HRb.out.one.cell huY;have fY:=HRb.out.one.frozen 40 (by rw [HLQl.out];decide)
   go_upto_region 14 with (fail)
   have m2_:=L2b.out.set_far (b:=g5) (by have:=Hlt.out;omega) 40 (.bool fy);have b_:=B0b.out.setCell (p:=⟨g5,40,none⟩) (by show B ≤ g5;have:=Hlt.out;omega) (.bool fy);clear sN cY fY huY;generalize World.setCell _ _ _ = w13 at m2_ b_ ⊢;have L213:=am m2_;have B13:=am b_;clear m2_ b_
   go_wp2_with (first
    | ((with_reducible refine gate_dst (N:=76) rfl ?_);refine Kd.event_run (v:= .agg Z.toArray) (w1:=w13) rfl (build_run0' rfl (HBZ.out w13)) ?_)
    | ((with_reducible refine gate_store (t:=33) (p:=2) rfl ?_);refine wpList_store_mid rfl 33 _ _ rfl g2 0 Z.toArray rfl rfl (by rw [List.size_toArray];exact L213.out.there) (by rw [List.size_toArray,HZl.out];exact info_ext') (all_oneCell_toArray HZo.out) ?_))
   have BR:=World.rangeAt_setCells_same w13 g2 0 Z L213.out.there;have hres:=run_loadVar_mid (P:=Try.prog) (w13.setCells g2 0 Z) g2 0 33 Z _ BR Try.underlying33 rfl (by rw [HZl.out];exact info_ext');refine bodyPost_ret (results_cell_tmp rfl _ rfl hres) rfl ?_;refine ⟨⟨ext0 0 0,none,0,?_,rfl,Kd.C_nil _ _,Nat.le_refl _,?_⟩,below_setCells' g2 (by have:=Hlt.out;omega) Z 0 w13 B13.out⟩
   ·rw [HD.out,show (ext0 0 0).cells none 0 = Z from HZ.out.symm];rfl
   ·rw [HD.out];rfl
 | some cc=>
   have hfe2 : fe = true:=by rw [← HFE.out,← HER.out,hdf];rfl
   subst hfe2;have hMc:=HMb.out;rw [hdf,Option.getD_some] at hMc;obtain ⟨A3,n3,hL4e,hn3,hC3⟩:=k25_open (k25.K_of_M hMc);have Hn3:=am hn3;obtain ⟨LE,hLE⟩ : ∃ LE,LE = (toE r cc).cells A3 n3:=⟨_,rfl⟩
   have heq : LQ.set 40 (.bool fy) = LE:=by rw [HLQ.out,hL4e,HLXe.out,← HFY.out,Hy.out,hLE];exact cells0_call H32s.out.1 H32s.out.2 cc A3 n3
   have HLE:=am hLE;have HMc:=am hMc;have H32 : Aside0 ((toE r cc).sum.length = 32):=⟨by show (bytesU r.sum).length = 32;rw [← H32s.out.1];exact List.length_map ..⟩;have HLEl : Aside0 (LE.length = 49):=⟨by rw [hLE];exact Ext.cells_length _ _ _ H32.out⟩;have HDE : Aside0 (decE l = if isExtP (toE r cc) = true then some (toE r cc) else none):=⟨HDE0.out.trans (decR_some HOK.out (HCD.out.trans hdf))⟩;have HL4e:=am hL4e;have HEQ:=am heq;clear hdf hMc hL4e hn3 hC3 hLE heq;have sN:=HRb.out.two.cell (i:=0) (v:= .int .i64 y) rfl;obtain ⟨uY,huY⟩ : ∃ u,LQ[40]? = some u:=⟨_,List.getElem?_eq_getElem (by rw [HLQl.out];decide)⟩;have cY:=HRb.out.one.cell huY;have fY:=HRb.out.one.frozen 40 (by rw [HLQl.out];decide)
   go_upto_region 13 with (fail)
   have m2_:=L2b.out.set_far (b:=g5) (by have:=Hlt.out;omega) 40 (.bool fy);have m5_:=HRb.out.one.set 40 (by rw [HLQl.out];decide) (.bool fy);have b_:=B0b.out.setCell (p:=⟨g5,40,none⟩) (by show B ≤ g5;have:=Hlt.out;omega) (.bool fy);have k_ : Kept (fun k=>k = g2 ∨ k = g5) w11b (World.setCell w11b ⟨g5,40,none⟩ (.bool fy)):=(Kept.refl _ _).set (.inr rfl) 40 _
   have z_ : (World.setCell w11b ⟨g5,40,none⟩ (.bool fy)).heap.size = w11b.heap.size:=by rw [World.size_setCell]
   have zz_ : w9.heap.size ≤ w11b.heap.size:=Hszb.out;rw [HEQ.out] at m5_;clear sN cY fY huY;generalize World.setCell _ _ _ = w12 at m2_ m5_ b_ k_ z_ ⊢;have L212:=am m2_;have L512:=am m5_;have B12:=am b_;have K12:=am k_;have Hsz : Aside0 (w9.heap.size ≤ w12.heap.size):=⟨by omega⟩;clear m2_ m5_ b_ k_ z_ zz_
   have HCE : Aside0 (∀ W,Kept (fun k=>k = g2 ∨ k = g5) w12 W → Kd.C k25 W A3 cc.f3.length cc.f3):=⟨fun W hk=>by
    have hk2:=K12.out.step hk;have hM2:=Kd.M_step HMc.out (w1:=W) (fun k ho hl=>hk2.block k hl (fun h=>by have:=Hlt.out;have:=S9.out;rcases h with h | h <;> omega));obtain ⟨A4,n4,e4,_,hC4⟩:=k25_open (k25.K_of_M hM2);rw [HL4e.out] at e4;have e5:=congrArg (fun L=>L[3]?) e4;have e6 : Value.slice A3 cc.f3.length n3 = Value.slice A4 cc.f3.length n4:=Option.some.inj e5
    injection e6 with e7 _ _
    rw [e7];exact hC4⟩
   obtain ⟨rr,hrr⟩ : ∃ rr,isExtP (toE r cc) = rr:=⟨_,rfl⟩;have HALL : Aside0 (∀ W,Kd.C k25 W A3 cc.f3.length cc.f3 → Calls Try.prog 14 #[.agg LE.toArray] W fun e w'=>e = .returned (.bool rr) ∧ Below W.heap.size W w'):=⟨fun W hC=>by rw [HLE.out,← hrr];exact code_IsExt.all (toE r cc) A3 n3 W H32.out hC Hn3.out⟩;have HCE0:=am (HCE.out w12 (Kept.refl _ _));have HDR : Aside0 (decE l = if rr = true then some (toE r cc) else none):=⟨by rw [HDE.out,hrr]⟩;clear hrr
   cases rr with
   | false=>
     have HD : Aside0 (decE l = none):=⟨HDR.out⟩
     go_upto_region 14 with (first | ((with_reducible refine gate_dst (N:=72) rfl ?_);(try (refine gate_guard (by rfl) ?_;dsimp only));refine wpList_load_mid rfl 33 _ rfl g5 0 rfl LE _ L512.out.range Try.underlying33 rfl (by rw [HLEl.out];exact info_ext') ?_) | (go_at_call 14;go_loud (with_reducible refine (HALL.out w12 HCE0.out).mono ?_;rintro e w14 ⟨rfl,hb_⟩;have B14:=am hb_;clear hb_)))
     have L214:=am (L212.out.below B14.out (by have:=Hlt.out;have:=Hsz.out;have:=S9.out;omega));have B014:=am (B12.out.trans (B14.out.mono (by have:=B12.out.size;have:=HBe.out;omega)))
     go_wp2_with (first
      | ((with_reducible refine gate_dst (N:=76) rfl ?_);refine Kd.event_run (v:= .agg Z.toArray) (w1:=w14) rfl (build_run0' rfl (HBZ.out w14)) ?_)
      | ((with_reducible refine gate_store (t:=33) (p:=2) rfl ?_);refine wpList_store_mid rfl 33 _ _ rfl g2 0 Z.toArray rfl rfl (by rw [List.size_toArray];exact L214.out.there) (by rw [List.size_toArray,HZl.out];exact info_ext') (all_oneCell_toArray HZo.out) ?_))
     have BR:=World.rangeAt_setCells_same w14 g2 0 Z L214.out.there;have hres:=run_loadVar_mid (P:=Try.prog) (w14.setCells g2 0 Z) g2 0 33 Z _ BR Try.underlying33 rfl (by rw [HZl.out];exact info_ext');refine bodyPost_ret (results_cell_tmp rfl _ rfl hres) rfl ?_;refine ⟨⟨ext0 0 0,none,0,?_,rfl,Kd.C_nil _ _,Nat.le_refl _,?_⟩,below_setCells' g2 (by have:=Hlt.out;omega) Z 0 w14 B014.out⟩
     ·rw [HD.out,show (ext0 0 0).cells none 0 = Z from HZ.out.symm];rfl
     ·rw [HD.out];rfl
   | true=>
     have HD : Aside0 (decE l = some (toE r cc)):=⟨HDR.out⟩
     go_upto_region 15 with (first | ((with_reducible refine gate_dst (N:=72) rfl ?_);(try (refine gate_guard (by rfl) ?_;dsimp only));refine wpList_load_mid rfl 33 _ rfl g5 0 rfl LE _ L512.out.range Try.underlying33 rfl (by rw [HLEl.out];exact info_ext') ?_) | (go_at_call 14;go_loud (with_reducible refine (HALL.out w12 HCE0.out).mono ?_;rintro e w14 ⟨rfl,hb_⟩;have B14:=am hb_;clear hb_)))
     have L214:=am (L212.out.below B14.out (by have:=Hlt.out;have:=Hsz.out;have:=S9.out;omega));have L514:=am (L512.out.below B14.out (by have:=Hlt.out;have:=Hsz.out;have:=S9.out;omega));have B014:=am (B12.out.trans (B14.out.mono (by have:=B12.out.size;have:=HBe.out;omega)))
     go_wp2_with (first
      | ((with_reducible refine gate_dst (N:=77) rfl ?_);refine wpList_load_mid rfl 33 _ rfl g5 0 rfl LE _ L514.out.range Try.underlying33 rfl (by rw [HLEl.out];exact info_ext') ?_)
      | ((with_reducible refine gate_store (t:=33) (p:=2) rfl ?_);refine wpList_store_mid rfl 33 _ _ rfl g2 0 LE.toArray rfl rfl (by rw [List.size_toArray,HLEl.out,← HZl.out];exact L214.out.there) (by rw [List.size_toArray,HLEl.out];exact info_ext') (all_oneCell_toArray (by rw [HLE.out];exact Ext.cells_one _ _ _)) ?_))
     have BR:=World.rangeAt_setCells_same w14 g2 0 LE (by rw [HLEl.out,← HZl.out];exact L214.out.there);have hres:=run_loadVar_mid (P:=Try.prog) (w14.setCells g2 0 LE) g2 0 33 LE _ BR Try.underlying33 rfl (by rw [HLEl.out];exact info_ext');refine bodyPost_ret (results_cell_tmp rfl _ rfl hres) rfl ?_;have hk_ : Kept (fun k=>k = g2 ∨ k = g5) w12 (w14.setCells g2 0 LE):=((Kept.of_below B14.out).step (kept_setCells g2 0 LE w14)).mono (fun k h=> .inl h);refine ⟨⟨toE r cc,A3,n3,?_,H32.out,HCE.out _ hk_,Hn3.out,?_⟩,below_setCells' g2 (by have:=Hlt.out;omega) LE 0 w14 B014.out⟩
     ·rw [HD.out,← HLE.out];rfl
     ·rw [HD.out];rfl
end Go.Proofs.Ytilckocpgififaa.G
/- The reference's reader: a number, a row, so many bytes; where it errs it tells nothing, and has erred. -/
namespace Go.Proofs.Ytilckocpgififaa.G
open Go.RowKit Go.Shelf Go.Proofs.YtilckocpgififaaW.PrintWords Go.Proofs.YtilckocpgififaaW.PrintLast Go.Proofs.YtilckocpgififaaW.PrintMore Go.Proofs.Ytilckocpgififaa.PNum
set_option linter.unusedVariables false
set_option linter.unusedSimpArgs false
structure RdAt (B : Nat) (w : World) (R : Nat) (A : Option Addr) (c : Nat) (l : List Int) (ok : Bool) : Prop where
 reader : Lies w R [.slice A l.length c,.bool ok]
 cap : l.length ≤ c
 row : Kd.C (Kd.int .u8) w A l.length l
 far : ∀ ad,A = some ad → 0 < l.length → ad.block < B
 bytes : IsBytes l
 short : l.length < 140737488355328
 atR : B ≤ R
section
variable {B : Nat} {w w' : World} {R : Nat} {A A' : Option Addr} {c c' : Nat} {l l' : List Int} {ok : Bool}
theorem RdAt.below (h : RdAt B w R A c l ok) (hb : Below w.heap.size w w') : RdAt B w' R A c l ok:=
 { h with reader:=h.reader.below hb (h.reader.lt (by simp)),row:=Kd.C_below h.row hb }
theorem RdAt.drew (h : RdAt B w R A c l ok) : RdAt B w.drew R A c l ok:={ h with reader:=h.reader.drew,row:=Kd.C_drew h.row }
theorem RdAt.row_set (h : RdAt B w R A c l ok) {g : Nat} (hg : B ≤ g) (i : Nat) (v : Value) : Kd.C (Kd.int .u8) (w.setCell ⟨g,i,none⟩ v) A l.length l:=
 C_stays h.row (fun ad e hn=>Below.heap_setCell w ⟨g,i,none⟩ _ _ (fun q=>by have:=h.far ad e hn;have q' : ad.block = g:=q;omega))
theorem RdAt.setOk (h : RdAt B w R A c l ok) (b : Bool) : RdAt B (w.setCell ⟨R,1,none⟩ (.bool b)) R A c l b:=
 { h with reader:=h.reader.set 1 (by simp) _,row:=h.row_set h.atR _ _ }
theorem RdAt.setRest (h : RdAt B w R A c l ok) (hc : l'.length ≤ c') (hr : Kd.C (Kd.int .u8) w A' l'.length l') (hl : IsBytes l') (hs : l'.length < 140737488355328)
 (hA : ∀ ad',A' = some ad' → 0 < l'.length → ad'.block < B) : RdAt B (w.setCell ⟨R,0,none⟩ (.slice A' l'.length c')) R A' c' l' ok:=
 { h with reader:=h.reader.set 0 (by simp) _,cap:=hc,row:=C_stays hr (fun ad e hn=>Below.heap_setCell w ⟨R,0,none⟩ _ _ (fun q=>by have:=hA ad e hn;have:=h.atR;have q' : ad.block = R:=q;omega)),far:=hA,bytes:=hl,short:=hs }
theorem RdAt.kept {bad : Nat → Prop} (h : RdAt B w R A c l ok) (hk : Kept bad w w') (hb : ∀ k,bad k → B ≤ k) (hR : ¬ bad R) : RdAt B w' R A c l ok:=
 { h with reader:=h.reader.kept hk (by simp) hR,row:=C_stays h.row (fun ad e hn=>hk.block _ (by subst e;exact Kd.C_lt h.row hn (by decide)) (fun q=>by have:=hb _ q;have:=h.far ad e hn;omega)) }
theorem RdAt.set_else (h : RdAt B w R A c l ok) {g : Nat} (hg : B ≤ g) (hR : R ≠ g) (i : Nat) (v : Value) : RdAt B (w.setCell ⟨g,i,none⟩ v) R A c l ok:=
 { h with reader:=h.reader.set_far hR _ _,row:=h.row_set hg _ _ }
end
def RowRet (B : Nat) (w' : World) (e : Ending) (p : List Int) : Prop:=∃ A1 c1,e = .returned (.slice A1 p.length c1) ∧ p.length ≤ c1 ∧ Kd.C (Kd.int .u8) w' A1 p.length p ∧ (∀ ad,A1 = some ad → 0 < p.length → ad.block < B)
def rnum (l : List Int) (e : Bool) : Int × List Int × Bool:=if (e || !okN l) = true then (0,l,true) else (valT l,restT l,false)
def rrow (l : List Int) (e : Bool) : List Int × List Int × Bool:=if (e || !(rowT l).2.2) = true then ([],l,true) else ((rowT l).1,l.drop (rowT l).2.1,false)
def rraw (n : Nat) (l : List Int) (e : Bool) : List Int × List Int × Bool:=if (e || decide (l.length < n)) = true then ([],l,true) else (l.take n,l.drop n,false)
set_option maxRecDepth 100000 in
set_option maxHeartbeats 4000000 in
theorem rnum_calls (B R : Nat) (A : Option Addr) (c : Nat) (l : List Int) (er : Bool) (w : World) (hR : RdAt B w R A c l er) :
 Calls Try.prog 47 #[.pointer (some ⟨R,0,none⟩)] w fun e w'=>e = .returned (.int .i64 (rnum l er).1) ∧
  (∃ A' c',RdAt B w' R A' c' (rnum l er).2.1 (rnum l er).2.2) ∧ Kept (fun k=>k = R) w w':=by
 have hct:=rtake_tells 40 l hR.bytes (by have:=hR.short;omega) (by decide);rw [numT_out] at hct;have hsz:=numT_size hR.bytes;obtain ⟨v,hv⟩ : ∃ v,(numT l).1 = v:=⟨_,rfl⟩;obtain ⟨s,hs⟩ : ∃ s,(numT l).2.1 = s:=⟨_,rfl⟩;obtain ⟨k',hk'⟩ : ∃ k',(numT l).2.2 = k':=⟨_,rfl⟩
 have hrn : rnum l er = if (er || !k') = true then (0,l,true) else (v,l.drop s,false):=by unfold rnum okN valT restT;rw [hv,hs,hk']
 rw [hv,hs,hk'] at hct;rw [hs] at hsz;have HRN:=am hrn;obtain ⟨i8,hi8,_,hsz8,_⟩:=info_parts info5;obtain ⟨A2,hcut,hCr,hcc,hAA⟩:=cut_tail (P:=Try.prog) 38 5 Try.underlying38 hi8 hsz8 A c l s hsz hR.cap;have HCT:=am hct;have HR:=am hR;have HCR:=am hCr;have HCC:=am hcc;have HAA:=am hAA;have r0:=hR.reader.cell (i:=0) (v:= .slice A l.length c) rfl;clear hct hR hCr hcc hAA hv hs hk' hi8 hsz8 hsz hrn
 cases er <;> cases k'
 case false.true=>
  go_enter Try.func47,Try.ntmps47
  go_upto_region 5 with (go_at_call 63;go_loud ((with_reducible refine (althingref1_Take.calls 40 A c l v (s : Int) true _ HR.out.row HR.out.cap HCT.out).mono ?_);rintro e w1 ⟨rfl,hb_⟩;have HR1:=am (HR.out.below hb_);have HK1:=am ((Kept.refl (fun k=>k = R) w).below hb_);clear hb_;clear r0;have q1:=HR1.out.reader.cell (i:=1) (v:= .bool _) rfl))
  clear q1;have r0:=HR1.out.reader.cell (i:=0) (v:= .slice A l.length c) rfl;have f0:=HR1.out.reader.frozen 0 (by simp)
  have n1_:=HR1.out.setRest (A':=A2) (c':=c - s) (l':=l.drop s) (by rw [List.length_drop];exact HCC.out) (HCR.out _ _ HR1.out.row) (HR1.out.bytes.drop s) (by rw [List.length_drop];have:=HR1.out.short;omega) (fun ad' e hn=>by
   obtain ⟨ad,e1,e2⟩:=HAA.out ad' e
   rw [e2];exact HR1.out.far ad e1 (by rw [List.length_drop] at hn;omega))
  have k1_:=HK1.out.set (g:=R) rfl 0 (.slice A2 (l.length - s) (c - s));rw [List.length_drop] at n1_;have N1:=am n1_;have K1:=am k1_;clear n1_ k1_
  go_wp2
  go_ret
  rw [HRN.out];exact ⟨rfl,⟨A2,c - s,N1.out⟩,K1.out⟩
 all_goals (
  go_enter Try.func47,Try.ntmps47
  go_wp2_with (go_at_call 63;go_loud ((with_reducible refine (althingref1_Take.calls 40 A c l v (s : Int) _ _ HR.out.row HR.out.cap HCT.out).mono ?_);rintro e w1 ⟨rfl,hb_⟩;have HR1:=am (HR.out.below hb_);have HK1:=am ((Kept.refl (fun k=>k = R) w).below hb_);clear hb_;clear r0;have q1:=HR1.out.reader.cell (i:=1) (v:= .bool _) rfl;have q2:=HR1.out.reader.frozen 1 (by simp)))
  go_ret
  rw [HRN.out]
  exact ⟨rfl,⟨A,c,HR1.out.setOk true⟩,HK1.out.set (g:=R) rfl 1 _⟩)
set_option maxRecDepth 100000 in
set_option maxHeartbeats 4000000 in
theorem rrow_calls (B R : Nat) (A : Option Addr) (c : Nat) (l : List Int) (er : Bool) (w : World) (hR : RdAt B w R A c l er) :
 Calls Try.prog 49 #[.pointer (some ⟨R,0,none⟩)] w fun e w'=>
  RowRet B w' e (rrow l er).1 ∧
  (∃ A' c',RdAt B w' R A' c' (rrow l er).2.1 (rrow l er).2.2) ∧ Kept (fun k=>k = R) w w':=by
 have hsz:=rowT_size hR.bytes;have hct:=rcut_tells 40 l hR.bytes hR.short (by decide);rw [rowT_out] at hct;obtain ⟨p,hp⟩ : ∃ p,(rowT l).1 = p:=⟨_,rfl⟩;obtain ⟨s,hs⟩ : ∃ s,(rowT l).2.1 = s:=⟨_,rfl⟩;obtain ⟨k',hk'⟩ : ∃ k',(rowT l).2.2 = k':=⟨_,rfl⟩
 have hrn : rrow l er = if (er || !k') = true then ([],l,true) else (p,l.drop s,false):=by unfold rrow;rw [hp,hs,hk']
 rw [hp,hs,hk'] at hct;rw [hs] at hsz;have HRN:=am hrn;have hBw : B ≤ w.heap.size:=Nat.le_trans hR.atR (Nat.le_of_lt (hR.reader.lt (by simp)));have hcall:=althingref1_Cut.calls 40 A c l p (s : Int) k' B w hR.row hR.far hBw hR.cap hct;obtain ⟨i8,hi8,_,hsz8,_⟩:=info_parts info5;obtain ⟨A2,hcut,hCr,hcc,hAA⟩:=cut_tail (P:=Try.prog) 38 5 Try.underlying38 hi8 hsz8 A c l s hsz.1 hR.cap;have HCALL:=am hcall;have HR:=am hR;have HCR:=am hCr;have HCC:=am hcc;have HAA:=am hAA;have r0:=hR.reader.cell (i:=0) (v:= .slice A l.length c) rfl;clear hct hR hCr hcc hAA hp hs hk' hi8 hsz8 hsz hrn hBw hcall
 cases er <;> cases k'
 case false.true=>
  go_enter Try.func49,Try.ntmps49
  go_upto_region 5 with (go_at_call 64;go_loud ((with_reducible refine HCALL.out.mono ?_);rintro e w1 ⟨v0,rfl,hr_,hb_⟩;obtain ⟨⟨A1,c1,hv_,hC1_,hc1_⟩,hfb_,_⟩:=hr_;subst hv_;have HFB:=am hfb_;have HC1:=am hc1_;have HCP:=am hC1_;clear hfb_ hc1_ hC1_;have HR1:=am (HR.out.below hb_);have HK1:=am ((Kept.refl (fun k=>k = R) w).below hb_);clear hb_;clear r0;have q1:=HR1.out.reader.cell (i:=1) (v:= .bool _) rfl))
  clear q1;have r0:=HR1.out.reader.cell (i:=0) (v:= .slice A l.length c) rfl;have f0:=HR1.out.reader.frozen 0 (by simp)
  have n1_:=HR1.out.setRest (A':=A2) (c':=c - s) (l':=l.drop s) (by rw [List.length_drop];exact HCC.out) (HCR.out _ _ HR1.out.row) (HR1.out.bytes.drop s) (by rw [List.length_drop];have:=HR1.out.short;omega) (fun ad' e hn=>by
   obtain ⟨ad,e1,e2⟩:=HAA.out ad' e
   rw [e2];exact HR1.out.far ad e1 (by rw [List.length_drop] at hn;omega))
  have k1_:=HK1.out.set (g:=R) rfl 0 (.slice A2 (l.length - s) (c - s));rw [List.length_drop] at n1_;have hfb : ∀ ad,A1 = some ad → 0 < p.length → ad.block < B:=fun ad e _=>HFB.out ad.block (by rw [e];simp [Value.ownBlock]);have c1_ : Kd.C (Kd.int .u8) (w1.setCell ⟨R,0,none⟩ (.slice A2 (l.length - s) (c - s))) A1 p.length p:=C_stays HCP.out (fun ad e hn=>Below.heap_setCell w1 ⟨R,0,none⟩ _ _ (fun q=>by have:=hfb ad e hn;have:=HR.out.atR;have q' : ad.block = R:=q;omega));have N1:=am n1_;have K1:=am k1_;have C1:=am c1_;have HF1:=am hfb;clear n1_ k1_ c1_ hfb
  go_wp2
  go_ret
  rw [HRN.out];exact ⟨⟨A1,c1,rfl,HC1.out,C1.out,HF1.out⟩,⟨A2,c - s,N1.out⟩,K1.out⟩
 all_goals (
  go_enter Try.func49,Try.ntmps49
  go_wp2_with (go_at_call 64;go_loud ((with_reducible refine HCALL.out.mono ?_);rintro e w1 ⟨v0,rfl,hr_,hb_⟩;obtain ⟨⟨A1,c1,hv_,hC1_,hc1_⟩,hfb_,_⟩:=hr_;subst hv_;clear hfb_ hc1_ hC1_;have HR1:=am (HR.out.below hb_);have HK1:=am ((Kept.refl (fun k=>k = R) w).below hb_);clear hb_;clear r0;have q1:=HR1.out.reader.cell (i:=1) (v:= .bool _) rfl;have q2:=HR1.out.reader.frozen 1 (by simp)))
  go_ret
  rw [HRN.out]
  exact ⟨⟨none,0,rfl,Nat.le_refl _,Kd.C_nil _ _,fun _ h _=>by cases h⟩,⟨A,c,HR1.out.setOk true⟩,HK1.out.set (g:=R) rfl 1 _⟩)
set_option maxRecDepth 100000 in
set_option maxHeartbeats 4000000 in
theorem rraw_calls (B R : Nat) (A : Option Addr) (c : Nat) (l : List Int) (er : Bool) (w : World) (n : Nat) (hn : n ≤ 1000) (hR : RdAt B w R A c l er) :
 Calls Try.prog 48 #[.pointer (some ⟨R,0,none⟩),.int .i64 (n : Int)] w fun e w'=>
  RowRet B w' e (rraw n l er).1 ∧
  (∃ A' c',RdAt B w' R A' c' (rraw n l er).2.1 (rraw n l er).2.2) ∧ Kept (fun k=>k = R) w w':=by
 have r0:=hR.reader.cell (i:=0) (v:= .slice A l.length c) rfl;have r1:=hR.reader.cell (i:=1) (v:= .bool er) rfl;have f1:=hR.reader.frozen 1 (by simp);have HR:=am hR;have hcap:=hR.cap;obtain ⟨i8,hi8,_,hsz8,_⟩:=info_parts info5
 by_cases hlt : l.length < n
 ·have d0 : decide ((l.length : Int) < (n : Int)) = true:=decide_eq_true (by omega);have d1 : decide (l.length < n) = true:=decide_eq_true hlt
  have hrn : rraw n l er = ([],l,true):=by unfold rraw;rw [if_pos (by simp [hlt])]
  have HRN:=am hrn;clear hR hrn hi8 hsz8 hcap hlt;cases er
  all_goals (
   go_enter Try.func48,Try.ntmps48
   go_wp2
   go_ret
   rw [HRN.out]
   exact ⟨⟨none,0,rfl,Nat.le_refl _,Kd.C_nil _ _,fun _ h _=>by cases h⟩,⟨A,c,HR.out.setOk true⟩,(Kept.refl (fun k=>k = R) w).set (g:=R) rfl 1 _⟩)
 have d0 : decide ((l.length : Int) < (n : Int)) = false:=decide_eq_false (by omega);have d1 : decide (l.length < n) = false:=decide_eq_false hlt
 cases er with
 | true=>
   have hrn : rraw n l true = ([],l,true):=by unfold rraw;rw [if_pos (by simp)]
   have HRN:=am hrn;clear hR hrn hi8 hsz8 hcap hlt;go_enter Try.func48,Try.ntmps48
   go_wp2
   go_ret
   rw [HRN.out];exact ⟨⟨none,0,rfl,Nat.le_refl _,Kd.C_nil _ _,fun _ h _=>by cases h⟩,⟨A,c,HR.out.setOk true⟩,(Kept.refl (fun k=>k = R) w).set (g:=R) rfl 1 _⟩
 | false=>
   have hrn : rraw n l false = (l.take n,l.drop n,false):=by unfold rraw;rw [if_neg (by simp [hlt])]
   have HRN:=am hrn;obtain ⟨A2,hcut,hCr,hcc,hAA⟩:=cut_tail (P:=Try.prog) 38 5 Try.underlying38 hi8 hsz8 A c l n (by omega) hR.cap
   have hhead : ∀ W : World,(Instr.slice 38 (.slice A l.length c) none (some (.int .i64 (n : Int))) none).run Try.prog W = .ok (.slice A n c) W:=by
    intro W;have:=cut_to (P:=Try.prog) 38 5 .i64 Try.underlying38 hi8 A l.length c (n : Int) (by omega) (by omega) hR.cap W;rwa [Int.toNat_natCast] at this
   have htl : (l.take n).length = n:=List.length_take_of_le (by omega);have HTL:=am htl;have HCR:=am hCr;have HCC:=am hcc;have HAA:=am hAA;have hf0:=hR.reader.frozen 0 (by simp);have Hlt : Aside0 (n ≤ l.length):=⟨by omega⟩;clear hR hrn hi8 hsz8 hcap hlt hCr hcc hAA htl;go_enter Try.func48,Try.ntmps48
   go_wp2
   go_ret
   have n1_:=HR.out.setRest (A':=A2) (c':=c - n) (l':=l.drop n) (by rw [List.length_drop];exact HCC.out) (HCR.out _ _ HR.out.row) (HR.out.bytes.drop n) (by rw [List.length_drop];have:=HR.out.short;omega) (fun ad' e hn=>by
    obtain ⟨ad,e1,e2⟩:=HAA.out ad' e
    rw [e2];exact HR.out.far ad e1 (by rw [List.length_drop] at hn;omega))
   have k1_:=(Kept.refl (fun k=>k = R) w).set (g:=R) rfl 0 (.slice A2 (l.length - n) (c - n));rw [List.length_drop] at n1_;have hCt:=Kd.C_take HR.out.row (m:=n) Hlt.out;have c1_ : Kd.C (Kd.int .u8) (w.setCell ⟨R,0,none⟩ (.slice A2 (l.length - n) (c - n))) A (l.take n).length (l.take n):=C_stays hCt (fun ad e hn=>Below.heap_setCell w ⟨R,0,none⟩ _ _ (fun q=>by have:=HR.out.far ad e (by rw [HTL.out] at hn;have:=Hlt.out;omega);have:=HR.out.atR;have q' : ad.block = R:=q;omega));rw [HRN.out];exact ⟨⟨A,c,by rw [HTL.out];rfl,by rw [HTL.out];exact Nat.le_trans Hlt.out HR.out.cap,c1_,fun ad e hn=>HR.out.far ad e (by rw [HTL.out] at hn;have:=Hlt.out;omega)⟩,⟨A2,c - n,n1_⟩,k1_⟩
end Go.Proofs.Ytilckocpgififaa.G
/- Bytes as a call, plainly, as the reference reads them: what was told as bytes is read as it was. -/
namespace Go.Proofs.Ytilckocpgififaa.G
open Go.RowKit Go.Shelf Go.Proofs.YtilckocpgififaaW.PrintWords Go.Proofs.YtilckocpgififaaW.PrintMore Go.Proofs.Ytilckocpgififaa.PNum
set_option linter.unusedVariables false
set_option linter.unusedSimpArgs false
def kidsR (dec : List Int → S25) : Nat → List Int → Bool → List S25 → List S25
 | 0,_,_,acc=>acc
 | m + 1,l,e,acc=>if e = true then acc else kidsR dec m (rrow l false).2.1 (rrow l false).2.2 (acc ++ [dec (rrow l false).1])
def rn1 (l : List Int) : Int × List Int × Bool:=rnum l false
def rn2 (l : List Int) : Int × List Int × Bool:=rnum (rn1 l).2.1 (rn1 l).2.2
def rn3 (l : List Int) : Int × List Int × Bool:=rnum (rn2 l).2.1 (rn2 l).2.2
def rn4 (l : List Int) : Int × List Int × Bool:=rnum (rn3 l).2.1 (rn3 l).2.2
def readF : Nat → List Int → S25
 | 0,l=>⟨(rn1 l).1,(rn2 l).1,(rn3 l).1,[]⟩
 | f + 1,l=>⟨(rn1 l).1,(rn2 l).1,(rn3 l).1,kidsR (readF f) (min (rn4 l).1.toNat 4) (rn4 l).2.1 (rn4 l).2.2 []⟩
theorem rnum_range {l : List Int} (hl : IsBytes l) (e : Bool) : 0 ≤ (rnum l e).1 ∧ (rnum l e).1 ≤ 4611686018427387904:=by
 unfold rnum
 split
 ·exact ⟨Int.le_refl _,by show (0 : Int) ≤ 4611686018427387904;decide⟩
 ·exact numT_range hl
theorem rnum_bytes {l : List Int} (hl : IsBytes l) (e : Bool) : IsBytes (rnum l e).2.1:=by
 unfold rnum
 split
 ·exact hl
 ·exact restT_bytes hl
theorem rrow_bytes {l : List Int} (hl : IsBytes l) (e : Bool) : IsBytes (rrow l e).2.1 ∧ IsBytes (rrow l e).1 ∧ (rrow l e).1.length ≤ l.length:=by
 unfold rrow
 split
 ·exact ⟨hl,fun c hc=>(by cases hc),Nat.zero_le _⟩
 ·exact ⟨hl.drop _,(rowT_size hl).2.2,(rowT_size hl).2.1⟩
theorem rnum_put {n : Int} (h : Small n) (t : List Int) : rnum (numB n ++ t) false = (n,t,false):=by
 unfold rnum;rw [okN_put h,valT_put h,restT_put h];rfl
theorem rrow_put (p t : List Int) (hp : p.length ≤ 4611686018427387904) : rrow (rowB p ++ t) false = (p,t,false):=by
 unfold rrow;rw [rowT_put p t hp];simp
theorem kidsR_put (dec : List Int → S25) (enc : S25 → List Int) (l : List S25) (hl : ∀ x ∈ l,(enc x).length ≤ 4611686018427387904 ∧ dec (enc x) = x) (t : List Int) :
 ∀ (acc : List S25),kidsR dec l.length (rowsB (l.map enc) ++ t) false acc = acc ++ l:=by
 induction l with
 | nil=>intro acc;simp [kidsR,rowsB]
 | cons x l ih=>
   intro acc;obtain ⟨h1,h2⟩:=hl x (by simp);rw [List.length_cons,kidsR,if_neg (by decide),List.map_cons,rowsB_cons,List.append_assoc,rrow_put _ _ h1]
   dsimp only
   rw [h2,ih (fun y hy=>hl y (by simp [hy]))]
   simp
theorem readHead_put {c : S25} (h0 : Small c.f0) (h1 : Small c.f1) (h2 : Small c.f2) (h3 : c.f3.length ≤ 4) (t : List Int) :
 rn1 (numsB [c.f0,c.f1,c.f2,(c.f3.length : Int)] ++ t) = (c.f0,numsB [c.f1,c.f2,(c.f3.length : Int)] ++ t,false) ∧ rn2 (numsB [c.f0,c.f1,c.f2,(c.f3.length : Int)] ++ t) = (c.f1,numsB [c.f2,(c.f3.length : Int)] ++ t,false) ∧
 rn3 (numsB [c.f0,c.f1,c.f2,(c.f3.length : Int)] ++ t) = (c.f2,numsB [(c.f3.length : Int)] ++ t,false) ∧ rn4 (numsB [c.f0,c.f1,c.f2,(c.f3.length : Int)] ++ t) = ((c.f3.length : Int),t,false):=by
 have hn : Small (c.f3.length : Int):=by unfold Small;omega
 have e : ∀ (n : Int) (ns s : List Int),numsB (n :: ns) ++ s = numB n ++ (numsB ns ++ s):=fun n ns s=>by simp [numsB]
 have e0 : ∀ (s : List Int),numsB [] ++ s = s:=fun s=>by simp [numsB]
 have k1 : rn1 (numsB [c.f0,c.f1,c.f2,(c.f3.length : Int)] ++ t) = (c.f0,numsB [c.f1,c.f2,(c.f3.length : Int)] ++ t,false):=by unfold rn1;rw [e,rnum_put h0]
 have k2 : rn2 (numsB [c.f0,c.f1,c.f2,(c.f3.length : Int)] ++ t) = (c.f1,numsB [c.f2,(c.f3.length : Int)] ++ t,false):=by unfold rn2;rw [k1];dsimp only;rw [e,rnum_put h1]
 have k3 : rn3 (numsB [c.f0,c.f1,c.f2,(c.f3.length : Int)] ++ t) = (c.f2,numsB [(c.f3.length : Int)] ++ t,false):=by unfold rn3;rw [k2];dsimp only;rw [e,rnum_put h2]
 refine ⟨k1,k2,k3,?_⟩
 unfold rn4;rw [k3];dsimp only;rw [e,rnum_put hn,e0]
theorem read_put : ∀ (f : Nat) (c : S25),f ≤ 3 → okT f c = true → readF f (encC f c) = c
 | 0,c,hf,h=>by
   obtain ⟨h0,h1,h2,h3⟩:=okT_small h;have hk:=okT_leaf h;obtain ⟨a1,a2,a3,_⟩:=readHead_put h0 h1 h2 h3 [];rw [List.append_nil] at a1 a2 a3
   unfold encC readF
   rw [a1,a2,a3]
   dsimp only
   rw [← hk,call_eta]
 | f + 1,c,hf,h=>by
   obtain ⟨h0,h1,h2,h3⟩:=okT_small h;obtain ⟨h4,hk⟩:=okT_kids h;obtain ⟨a1,a2,a3,a4⟩:=readHead_put h0 h1 h2 h3 (rowsB (c.f3.map (encC f)));have:=kidsR_put (readF f) (encC f) c.f3 (fun x hx=>⟨by have:=encC_most f x (hk x hx);have:=mostC_small (f:=f) (by omega);omega,read_put f x (by omega) (hk x hx)⟩) [] [];rw [List.append_nil,List.nil_append] at this
   unfold encC readF
   rw [a1,a2,a3,a4]
   dsimp only
   rw [Int.toNat_natCast,Nat.min_eq_left h3,this,call_eta]
end Go.Proofs.Ytilckocpgififaa.G
