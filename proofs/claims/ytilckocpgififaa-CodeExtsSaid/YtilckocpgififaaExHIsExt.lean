/- code.named: an extrinsic without what its kind does not name. -/
import Derived.Test.YtilckocpgififaaExHExt
import Derived.Laws.Tables
import Derived.Test.YtilckocpgififaaExHStep
import Derived.Test.YtilckocpgififaaExHSameCall
namespace Go.Proofs.Ytilckocpgififaa.G
open Go.Extern.Stop (cell)
open Go.RowKit Go.Proofs.YtilckocpgififaaW.PrintWords Go.Proofs.YtilckocpgififaaW.PrintLast Go.Proofs.YtilckocpgififaaW.PrintMore
set_option linter.unusedVariables false
set_option linter.unusedSimpArgs false
def zSum : List UInt8:=List.replicate 32 0
def z0 : S25:=⟨0,0,0,[]⟩
def ext0 (k who : Int) : Ext:=⟨k,who,0,0,0,0,0,zSum,0,false,0,0,0,0,z0⟩
def namedX (x : Ext) : Ext:=
 if x.kind = 1 then { ext0 x.kind x.who with dest:=x.dest,amt:=x.amt }
 else if x.kind = 2 then { ext0 x.kind x.who with call:=x.call }
 else if x.kind = 3 then { ext0 x.kind x.who with sum:=x.sum }
 else if x.kind = 4 then { ext0 x.kind x.who with track:=x.track,sum:=x.sum,amt:=x.amt }
 else if x.kind = 5 ∨ x.kind = 6 ∨ x.kind = 8 then { ext0 x.kind x.who with rfd:=x.rfd }
 else if x.kind = 7 then { ext0 x.kind x.who with rfd:=x.rfd,vkind:=x.vkind,vaye:=x.vaye,vlevel:=x.vlevel,va:=x.va,vn:=x.vn,vs:=x.vs }
 else if x.kind = 9 then { ext0 x.kind x.who with track:=x.track,dest:=x.dest,level:=x.level,amt:=x.amt }
 else if x.kind = 10 ∨ x.kind = 11 then { ext0 x.kind x.who with track:=x.track }
 else ext0 x.kind x.who
theorem built_ext (k who : Int) : Try.prog.built 33 [(0,.int .i64 k),(1,.int .i64 who)] = some ((ext0 k who).cells none 0).toArray:=by kernel_rfl
theorem info_ext : (Try.prog.info? 33).map (fun i=>(i.zero,i.size)) = some (some (.agg ((ext0 0 0).cells none 0).toArray),49):=by kernel_rfl
theorem info_ext' : (Try.prog.info? 33).map (·.size) = some 49:=by kernel_rfl
theorem results_cell {P : Program} {fn : Func} {t : Tmp} {ty : TypeId} (h : fn.results = #[.cell t ty]) (tmps : Array Value) {w : World} {g : Nat} {v : Value} (hp : tmps.getD t undef = .pointer (some ⟨g,0,none⟩)) (hv : (loadVar ty ⟨g,0,none⟩).run P w = .ok v w) : (results fn tmps).run P w = .ok v w:=by
 have hp' : tmps[t]?.getD undef = .pointer (some ⟨g,0,none⟩):=by rw [← hp];simp
 simp [results,h,hp',asAddr,hv]
theorem below_setCells {B : Nat} {w0 : World} (g : Nat) (hg : B ≤ g) : ∀ (L : List Value) (o : Nat) (w : World),Below B w0 w → Below B w0 (w.setCells g o L)
 | [],_,_,h=>h
 | v :: L,o,w,h=>below_setCells g hg L (o + 1) _ (h.setCell (p:=⟨g,o,none⟩) hg v)
theorem there_box {w : World} {g t : Nat} {L : List Value} (h : w.heap[g]? = some (.cells L.toArray t (0,0))) : w.there g 0 L.length:=fun j hj=>by
 constructor
 ·rw [Nat.zero_add,blk_cell h j];simp [hj]
 ·rw [Nat.zero_add];exact blk_frozen h j
theorem there_setCell {w : World} {g o n : Nat} (h : w.there g o n) (b i : Nat) (v : Value) : (w.setCell ⟨b,i,none⟩ v).there g o n:=World.there_setCells h b i [v]
theorem set_range {w : World} {g : Nat} {L : List Value} (h : w.rangeAt g 0 L) (ht : w.there g 0 L.length) (i : Nat) (hi : i < L.length) (v : Value) : (w.setCell ⟨g,i,none⟩ v).rangeAt g 0 (L.set i v):=fun j u hj=>by
 rw [Nat.zero_add]
 by_cases e : i = j
 rotate_left
 ·rw [List.getElem?_set_ne e] at hj;rw [World.cell?_setCell_other w _ _ _ (fun q=>e (by cases q;rfl))];have:=h j u hj;rwa [Nat.zero_add] at this
 subst e;have:=(ht i hi).1;rw [Nat.zero_add] at this;rw [List.getElem?_set_self hi] at hj;cases hj;obtain ⟨u0,hu0⟩:=Option.isSome_iff_exists.1 this;exact World.cell?_setCell_same w _ _ hu0
theorem far_range {w : World} {g g' : Nat} {L : List Value} (h : w.rangeAt g' 0 L) (hne : g' ≠ g) (i : Nat) (v : Value) : (w.setCell ⟨g,i,none⟩ v).rangeAt g' 0 L:=fun j u hj=>by
 rw [World.cell?_setCell_other w _ _ _ (fun q=>hne (by cases q;rfl))];exact h j u hj
theorem zero_ext (w : World) : (zeroValue 33).run Try.prog w = .ok (.agg ((ext0 0 0).cells none 0).toArray) w:=by
 have h:=info_ext;obtain ⟨Z,hZ⟩ : ∃ Z,Z = (ext0 0 0).cells none 0:=⟨_,rfl⟩;rw [← hZ] at h ⊢
 cases hi : Try.prog.info? 33 with
 | none=>rw [hi] at h;cases h
 | some i=>rw [hi] at h;simp at h;simp [zeroValue,typeInfo,hi,h.1,go_sem]
end Go.Proofs.Ytilckocpgififaa.G
/- code.SameExt's contract. -/
namespace Go.Proofs.Ytilckocpgififaa.G
open Go.Extern.Stop (cell)
open Go.RowKit Go.Proofs.YtilckocpgififaaW.PrintWords Go.Proofs.YtilckocpgififaaW.PrintLast Go.Proofs.YtilckocpgififaaW.PrintMore
set_option linter.unusedVariables false
set_option linter.unusedSimpArgs false
set_option maxRecDepth 100000 in
set_option maxHeartbeats 16000000 in
theorem code_SameExt.calls (f : Nat) (x y : Ext) (A B : Option Addr) (c d : Nat) (r : Bool) (w : World) (hx : x.sum.length = 32) (hy : y.sum.length = 32) (hC : Kd.C k25 w A x.call.f3.length x.call.f3) (hc : x.call.f3.length ≤ c) (hD : Kd.C k25 w B y.call.f3.length y.call.f3) (hd : y.call.f3.length ≤ d) (hr : sameF f x.call y.call = some r) :
 Calls Try.prog 24 #[.agg (x.cells A c).toArray,.agg (y.cells B d).toArray] w fun e w'=>e = .returned (.bool (r && sameX x y)) ∧ Below w.heap.size w w':=by
 obtain ⟨X,hX⟩ : ∃ X,X = (x.cells A c).toArray:=⟨_,rfl⟩;obtain ⟨Y,hY⟩ : ∃ Y,Y = (y.cells B d).toArray:=⟨_,rfl⟩;rw [← hX,← hY];have HX:=am hX;have HY:=am hY;have HC:=am hC;have HD:=am hD;have HR:=am hr;have Hx:=am hx;have Hy:=am hy;clear hX hY hC hD hr hx hy;go_enter Try.func24,Try.ntmps24
 go_upto_region 1 with (first
  | ((with_reducible refine gate_dst (N:=2) rfl ?_);refine box_event ?hg (N:=2) ?hd (cs:=X) (t:=33) ?hr ?_;(case hd=>rfl);(case hg=>rfl);(case hr=>first | (go_simp;done) | (go_simp;rfl));intro g1 hg1 w1 hbox1 hb1;have G1:=am hg1;have BX1:=am (rangeAt_box (HX.out ▸ hbox1));have HXlt:=am (blk_lt hbox1);have HB1:=am hb1;clear hg1 hbox1 hb1)
  | ((with_reducible refine gate_dst (N:=3) rfl ?_);refine box_event ?hg (N:=3) ?hd (cs:=Y) (t:=33) ?hr ?_;(case hd=>rfl);(case hg=>rfl);(case hr=>first | (go_simp;done) | (go_simp;rfl));intro g2 hg2 w2 hbox2 hb2;have G2:=am hg2;have BY2:=am (rangeAt_box (HY.out ▸ hbox2));have HYlt:=am (blk_lt hbox2);have HB2:=am hb2;clear hg2 hbox2 hb2))
 have BX2:=am (rangeAt_below BX1.out HB2.out (by have:=HB1.out.size;have:=G1.out;have:=HXlt.out;omega));obtain ⟨p0,p1,p2,p3⟩:=x.at_call A c Hx.out BX2.out;obtain ⟨q0,q1,q2,q3⟩:=y.at_call B d Hy.out BY2.out
 have n1 : w2.heap.size ≠ g1:=by have:=HB2.out.size;have:=HXlt.out;omega
 have n2 : w2.heap.size + 1 ≠ g1:=by have:=HB2.out.size;have:=HXlt.out;omega
 have n3 : w2.heap.size ≠ g2:=by have:=HYlt.out;omega
 have n4 : w2.heap.size + 1 ≠ g2:=by have:=HYlt.out;omega
 go_region_held3 (fun w'=>w'.cell? ⟨g1,45,none⟩ = some (.int .i64 x.call.f0) ∧ w'.cell? ⟨g1,46,none⟩ = some (.int .i64 x.call.f1) ∧ w'.cell? ⟨g1,47,none⟩ = some (.int .i64 x.call.f2) ∧ w'.cell? ⟨g1,48,none⟩ = some (.slice A x.call.f3.length c) ∧ w'.cell? ⟨g2,45,none⟩ = some (.int .i64 y.call.f0) ∧ w'.cell? ⟨g2,46,none⟩ = some (.int .i64 y.call.f1) ∧ w'.cell? ⟨g2,47,none⟩ = some (.int .i64 y.call.f2) ∧ w'.cell? ⟨g2,48,none⟩ = some (.slice B y.call.f3.length d)) (go_keep) (fail)
 all_goals clear p0 p1 p2 p3 q0 q1 q2 q3 n1 n2 n3 n4
 all_goals (rename_i hh_;clear hh_)
 all_goals have HB3 : Aside0 (∀ o1 o2,Below w2.heap.size w2 ((w2.alloc o1).alloc o2).drew):=⟨fun o1 o2=>below_drew (((Below.refl _ w2).alloc (Nat.le_refl _) _).alloc (by simp) _)⟩
 all_goals have Heq:=eql_sum x y Hx.out Hy.out
 all_goals (
  cases r with
  | false=>
    go_wp2_with (go_at_call 51;refine (code_SameCall.calls f x.call y.call A B c d false _ (Kd.C_below HC.out (below_step (below_step HB1.out HB2.out) (HB3.out _ _))) hc (Kd.C_below HD.out (below_step (below_step HB1.out HB2.out) (HB3.out _ _))) hd HR.out).mono ?_;rintro e w4 ⟨rfl,hb4⟩;have HB4:=am (below_step (below_step (below_step HB1.out HB2.out) (HB3.out _ _)) hb4))
    go_ret
    exact ⟨rfl,HB4.out⟩
  | true=>
    go_wp2_with (first
     | (go_at_call 51;refine (code_SameCall.calls f x.call y.call A B c d true _ (Kd.C_below HC.out (below_step (below_step HB1.out HB2.out) (HB3.out _ _))) hc (Kd.C_below HD.out (below_step (below_step HB1.out HB2.out) (HB3.out _ _))) hd HR.out).mono ?_;rintro e w4 ⟨rfl,hb4⟩;have HB4:=am (below_step (below_step (below_step HB1.out HB2.out) (HB3.out _ _)) hb4);have BX4:=rangeAt_below (rangeAt_below BX2.out (HB3.out _ _) (by have:=HB2.out.size;have:=HXlt.out;omega)) hb4 (by simp;have:=HB2.out.size;have:=HXlt.out;omega);have BY4:=rangeAt_below (rangeAt_below BY2.out (HB3.out _ _) HYlt.out) hb4 (by simp;have:=HYlt.out;omega);obtain ⟨p0,p1,p2,p3,p4,p5,p6⟩:=x.at_head A c BX4;obtain ⟨q0,q1,q2,q3,q4,q5,q6⟩:=y.at_head B d BY4;obtain ⟨u0,u1,u2,u3,u4,u5⟩:=x.at_vote A c Hx.out BX4;obtain ⟨v0,v1,v2,v3,v4,v5⟩:=y.at_vote B d Hy.out BY4;have S4:=am (x.at_sum A c BX4);have T4:=am (y.at_sum B d BY4);clear BX4 BY4 hb4)
     | ((with_reducible refine gate_dst (N:=67) rfl ?_);(try (refine gate_guard (by rfl) ?_;dsimp only));refine wpList_load_mid rfl 29 _ rfl g1 7 rfl (x.sum.map cell) _ S4.out Try.underlying29 rfl (by rw [List.length_map,Hx.out];exact info_hash) ?_)
     | ((with_reducible refine gate_dst (N:=69) rfl ?_);(try (refine gate_guard (by rfl) ?_;dsimp only));refine wpList_load_mid rfl 29 _ rfl g2 7 rfl (y.sum.map cell) _ T4.out Try.underlying29 rfl (by rw [List.length_map,Hy.out];exact info_hash) ?_)
     | go_in)
    all_goals go_ret
    all_goals exact ⟨by simp [sameX, *],HB4.out⟩)
end Go.Proofs.Ytilckocpgififaa.G
-- Laid by this session's own program gprint.py over the kit's print (given functions are proved by hand).
namespace Go.Proofs.Ytilckocpgififaa.G
open Go.RowKit Go.Proofs.YtilckocpgififaaW.PrintWords Go.Proofs.YtilckocpgififaaW.PrintLast Go.Proofs.YtilckocpgififaaW.PrintMore
attribute [local go_sem] max2_int min2_int max_two min_two max_three min_three max_four min_four   -- for this text's walks alone
set_option linter.unusedVariables false
set_option linter.unusedSimpArgs false
/-! ### code_IsCall: function 11 -/
def code_IsCall.f (a0_0 : Int) (a0_1 : Int) (a0_2 : Int) (l0_3 : List (S25)) : Option (Bool):=(code_isCall.f a0_0 a0_1 a0_2 l0_3 0).bind fun t103=>(some t103)
set_option maxHeartbeats 8000000 in
set_option maxRecDepth 100000 in
theorem code_IsCall.calls (a0_0 : Int) (a0_1 : Int) (a0_2 : Int) (A0_3 : Option Addr) (c0_3 : Nat) (l0_3 : List (S25)) (r : Bool) (w : World) (hr0_3 : Kd.C k25 w A0_3 l0_3.length l0_3) (hc0_3 : l0_3.length ≤ c0_3) (h : code_IsCall.f a0_0 a0_1 a0_2 l0_3 = some r) :
 Calls Try.prog 11 #[.agg #[.int .i64 a0_0,.int .i64 a0_1,.int .i64 a0_2,.slice A0_3 l0_3.length c0_3]] w fun e w'=>e = .returned (.bool r) ∧ Below w.heap.size w w':=by
 have hu25:=Try.underlying25;have HR0_3:=am hr0_3;have HC0_3:=am hc0_3;clear hr0_3 hc0_3;have HB:=am (Below.refl w.heap.size w);have H : ((code_isCall.f a0_0 a0_1 a0_2 l0_3 0).bind fun t103=>(some t103)) = some r:=h;clear h;replace H:=Option.bind_eq_some_iff.mp H;obtain ⟨t103,A20,H⟩:=H;replace H : (some t103) = some r:=H;have A2:=am A20;clear A20;obtain rfl:=Option.some.inj H;go_enter Try.func11,Try.ntmps11
 go_wp2_with (first | ((with_reducible refine gate_dst (N:=1) rfl ?_);refine box_event ?hg (N:=1) ?hd (cs:=#[.int .i64 a0_0,.int .i64 a0_1,.int .i64 a0_2,.slice A0_3 l0_3.length c0_3]) (t:=25) ?hr ?_;(case hd=>rfl);(case hg=>rfl);(case hr=>first | (go_simp;done) | (go_simp;rfl));intro gb102 hg w3 hbox hb;have n0_:=am (below_step (by exact bq HB.out) hb);have n1_:=am (hbox);have n2_:=am ((by rw [hg];exact (below_size (by exact bq HB.out)) : w.heap.size ≤ gb102));have n3_:=am ((by rw [hg];exact (below_size (by exact bq HB.out)) : w.heap.size ≤ gb102));clear HB;have HB:=n0_;have BK102:=n1_;have GW102:=n2_;have GE102:=n3_;clear n0_ n1_ n2_ n3_;clear hb hbox hg;have hcz4_0 : w3.cell? ⟨gb102,0,none⟩ = some (.int .i64 a0_0):=(blk_cell BK102.out 0).trans rfl;have hcz4_1 : w3.cell? ⟨gb102,1,none⟩ = some (.int .i64 a0_1):=(blk_cell BK102.out 1).trans rfl;have hcz4_2 : w3.cell? ⟨gb102,2,none⟩ = some (.int .i64 a0_2):=(blk_cell BK102.out 2).trans rfl;have hcz4_3 : w3.cell? ⟨gb102,3,none⟩ = some (.slice A0_3 l0_3.length c0_3):=(blk_cell BK102.out 3).trans rfl;have hfz4_0:=blk_frozen BK102.out 0;have hfz4_1:=blk_frozen BK102.out 1;have hfz4_2:=blk_frozen BK102.out 2;have hfz4_3:=blk_frozen BK102.out 3) | ((with_reducible refine gate_callee (f:=27) rfl ?_);refine gl (some 4) Try.func27 #[.agg #[.int .i64 a0_0,.int .i64 a0_1,.int .i64 a0_2,.slice A0_3 l0_3.length c0_3],.int .i64 0] ?_;(with_reducible refine (code_isCall.calls a0_0 a0_1 a0_2 _ _ l0_3 0 t103 _ ?side1 ?side2 A2.out).mono ?_);(case side1=>repeat (first | exact (Kd.C_below HR0_3.out HB.out) | (with_reducible refine Kd.C_alloc ?_ _) | (with_reducible refine Kd.C_drewN ?_ _) | (with_reducible refine Kd.C_drew ?_)));(case side2=>exact HC0_3.out);rintro e w5 ⟨rfl,hb⟩;refine ⟨_,rfl,?_⟩;have n0_:=am (blk_below (g:=gb102) (o:= .cells #[.int .i64 a0_0,.int .i64 a0_1,.int .i64 a0_2,.slice A0_3 l0_3.length c0_3] 25 (0,0)) (by exact kq BK102.out) hb);have n1_:=am (below_step (by repeat (first | (with_reducible first | exact HB.out | apply ba | apply bn | apply bd | refine tb_ ?_ GE102.out) | exact HB.out)) hb);clear BK102;clear HB;have BK102:=n0_;have HB:=n1_;clear n0_ n1_;(try clear hb);(try clear hb2);(try clear hk);(try clear hi)))
 go_ret
 exact ⟨by first | rfl | (simp [errW_none,errW_some] <;> rfl) | (simp [*,errW_none,errW_some] <;> rfl),by repeat (first | (with_reducible first | exact HB.out | apply ba | apply bn | apply bd | refine tb_ ?_ GE102.out) | exact HB.out)⟩
-- NOT PRINTED: function 65 (api_Call_65)
-- NOT PRINTED: function 51 (code_SameCall)
-- NOT PRINTED: function 24 (code_SameExt)
-- NOT PRINTED: function 33 (code_named)
/-! ### conv_isIn: function 57 -/
def conv_isIn.f (a0 : Int) (a1 : Int) (a2 : Int) : Option (Bool):=if a0 ≥ a1 then (some (decide (a0 ≤ a2))) else (some false)
set_option maxHeartbeats 8000000 in
set_option maxRecDepth 100000 in
theorem conv_isIn.calls (a0 : Int) (a1 : Int) (a2 : Int) (r : Bool) (w : World) (h : conv_isIn.f a0 a1 a2 = some r) :
 Calls Try.prog 57 #[.int .i64 a0,.int .i64 a1,.int .i64 a2] w fun e w'=>e = .returned (.bool r) ∧ Drawn0 w w':=by
 have H : (if a0 ≥ a1 then (some (decide (a0 ≤ a2))) else (some false)) = some r:=h;clear h
 by_cases c4 : a0 ≥ a1
 ·rw [if_pos c4] at H;have c4b0 : decide (a1 ≤ a0) = true:=decide_eq_true c4;clear c4;obtain rfl:=Option.some.inj H;go_enter Try.func57,Try.ntmps57
  go_wp2
  go_ret
  exact ⟨by first | rfl | (simp;done) | (simp [*];done),by repeat (first | exact Drawn0.refl _ | apply Drawn0.step)⟩
 rw [if_neg c4] at H;have c4b0 : decide (a1 ≤ a0) = false:=decide_eq_false c4;clear c4;obtain rfl:=Option.some.inj H;go_enter Try.func57,Try.ntmps57
 go_wp2
 go_ret
 exact ⟨by first | rfl | (simp;done) | (simp [*];done),by repeat (first | exact Drawn0.refl _ | apply Drawn0.step)⟩
/-! ### conv_isCapital: function 56 -/
def conv_isCapital.l0 : Nat → Int → List Int → Int → Int → Option (Bool)
 | 0,_,_,_,_=>none
 | k + 1,x3,x6,x7,x8=>if x8 < x7 then (if 0 ≤ x8 then (if x8 < (x6.length : Int) then ((conv_isIn.f (rd x6 x8) 0 1073741824).bind fun t107=>(if t107 = true then (conv_isCapital.l0 k (wrap64 (x3 + (rd x6 x8))) x6 x7 (wrap64 (x8 + 1))) else (some false))) else (none)) else (none)) else (some (decide (x3 ≤ 1073741824)))
def conv_isCapital.f (k : Nat) (l0 : List Int) : Option (Bool):=conv_isCapital.l0 k 0 l0 (l0.length : Int) 0
set_option maxHeartbeats 8000000 in
set_option maxRecDepth 100000 in
theorem conv_isCapital.calls (k : Nat) (A0 : Option Addr) (c0 : Nat) (l0 : List Int) (r : Bool) (w : World) (hr0 : Kd.C (Kd.int .i64) w A0 l0.length l0) (hc0 : l0.length ≤ c0) (h : conv_isCapital.f k l0 = some r) :
 Calls Try.prog 56 #[.slice A0 l0.length c0] w fun e w'=>e = .returned (.bool r) ∧ Drawn0 w w':=by
 have HR0:=am hr0;have HC0:=am hc0;clear hr0 hc0;have H : (conv_isCapital.l0 k 0 l0 (l0.length : Int) 0) = some r:=h;clear h;have H':=am H;clear H;go_enter Try.func56,Try.ntmps56
 go_wp2
 go_loopg [3,8] k (fun kq v3 v8 w'=>∃ (x3_1 : Int) (x8_1 : Int),v3 = .int .i64 x3_1 ∧ v8 = .int .i64 x8_1 ∧ Aside0 (conv_isCapital.l0 kq x3_1 l0 (l0.length : Int) x8_1 = some r) ∧ Aside0 (kq ≤ k) ∧ Drawn0 w w')
 case atStart=>exact ⟨(0),(0),(by first | rfl | (simp;done) | (simp [*];done)),(by first | rfl | (simp;done) | (simp [*];done)),H',⟨Nat.le_refl _⟩,by repeat (first | exact Drawn0.refl _ | apply Drawn0.step)⟩
 case round=>
  clear H';obtain ⟨x3_1,x8_1,rfl,rfl,HA,HK1,⟨m1,rfl⟩⟩:=hrel
  cases gk with
  | zero=>exact absurd HA.out (by simp [conv_isCapital.l0])
  | succ k1=>
    have H:=HA.out;clear HA;simp only [conv_isCapital.l0] at H
    by_cases c2 : x8_1 < (l0.length : Int)
    rotate_left
    ·rw [if_neg c2] at H;have c2b0 : decide (x8_1 < (l0.length : Int)) = false:=decide_eq_false c2;clear c2;obtain rfl:=Option.some.inj H
     go_wp2
     go_ret
     exact ⟨by first | rfl | (simp;done) | (simp [*];done),by repeat (first | exact Drawn0.refl _ | apply Drawn0.step)⟩
    rw [if_pos c2] at H;have c2b0 : decide (x8_1 < (l0.length : Int)) = true:=decide_eq_true c2;clear c2
    by_cases c3 : 0 ≤ x8_1
    rotate_left
    ·rw [if_neg c3] at H;exact absurd H (by simp)
    rw [if_pos c3] at H;have c3b0 : decide (0 ≤ x8_1) = true:=decide_eq_true c3;clear c3
    by_cases c4 : x8_1 < (l0.length : Int)
    rotate_left
    ·rw [if_neg c4] at H;exact absurd H (by simp)
    rw [if_pos c4] at H;have c4b0 : decide (x8_1 < (l0.length : Int)) = true:=decide_eq_true c4;clear c4;replace H:=Option.bind_eq_some_iff.mp H;obtain ⟨t107,A50,H⟩:=H;replace H : (if t107 = true then (conv_isCapital.l0 k1 (wrap64 (x3_1 + (rd l0 x8_1))) l0 (l0.length : Int) (wrap64 (x8_1 + 1))) else (some false)) = some r:=H;have A5:=am A50;clear A50
    by_cases c6 : t107 = true
    rotate_left
    ·replace c6:=Bool.eq_false_iff.mpr c6;subst c6
     have H1 : (some false) = some r:=by rw [if_neg (show ¬ (false = true) by decide)] at H;exact H
     clear H;have H:=H1;clear H1;obtain rfl:=Option.some.inj H;have p106 : 0 ≤ (x8_1 : Int):=of_decide_eq_true (by first | (with_reducible assumption) | assumption);have q106 : x8_1 < (l0.length : Int):=of_decide_eq_true (by first | (with_reducible assumption) | assumption);obtain ⟨ad106,e106,hx106_0⟩:=Kd.at_int HR0.out x8_1 p106 q106;cases e106;replace p106:=eq_true p106;replace q106:=eq_true q106
     go_wp2_with (first | ((with_reducible refine gate_callee (f:=57) rfl ?_);refine gl (some 13) Try.func57 #[.int .i64 (rd l0 x8_1),.int .i64 0,.int .i64 1073741824] ?_;(with_reducible refine (conv_isIn.calls (rd l0 x8_1) 0 1073741824 false _ A5.out).mono ?_);rintro e w' ⟨rfl,⟨nd,rfl⟩⟩;refine ⟨_,rfl,?_⟩))
     go_ret
     exact ⟨by first | rfl | (simp;done) | (simp [*];done),by repeat (first | exact Drawn0.refl _ | apply Drawn0.step)⟩
    subst c6
    have H1 : (conv_isCapital.l0 k1 (wrap64 (x3_1 + (rd l0 x8_1))) l0 (l0.length : Int) (wrap64 (x8_1 + 1))) = some r:=by rw [if_pos rfl] at H;exact H
    clear H;have H:=H1;clear H1;have H':=am H;clear H;have p106 : 0 ≤ (x8_1 : Int):=of_decide_eq_true (by first | (with_reducible assumption) | assumption);have q106 : x8_1 < (l0.length : Int):=of_decide_eq_true (by first | (with_reducible assumption) | assumption);obtain ⟨ad106,e106,hx106_0⟩:=Kd.at_int HR0.out x8_1 p106 q106;cases e106;replace p106:=eq_true p106;replace q106:=eq_true q106
    go_wp2_with (first | ((with_reducible refine gate_callee (f:=57) rfl ?_);refine gl (some 13) Try.func57 #[.int .i64 (rd l0 x8_1),.int .i64 0,.int .i64 1073741824] ?_;(with_reducible refine (conv_isIn.calls (rd l0 x8_1) 0 1073741824 true _ A5.out).mono ?_);rintro e w' ⟨rfl,⟨nd,rfl⟩⟩;refine ⟨_,rfl,?_⟩))
    go_roundg k1
    case measure=>have:=HK1.out;omega
    case rel=>exact ⟨(wrap64 (x3_1 + (rd l0 x8_1))),(wrap64 (x8_1 + 1)),(by first | rfl | (simp;done) | (simp [*];done)),(by first | rfl | (simp;done) | (simp [*];done)),H',⟨by have:=HK1.out;omega⟩,by repeat (first | exact Drawn0.refl _ | apply Drawn0.step)⟩
/-! ### conv_Is: function 35 -/
def conv_Is.f (k : Nat) (a0_0 : Int) (a0_1 : Bool) (a0_2 : Int) (a0_3 : Int) (a0_4 : Int) (a0_5 : Int) : Option (Bool):=(conv_isCapital.f k (([a0_3,a0_4,a0_5] : List Int))).bind fun t112=>(if t112 = true then (if a0_0 = 1 then ((conv_isIn.f a0_2 0 6).bind fun t113=>(if t113 = true then (if a0_4 = 0 then (some (a0_5 == 0)) else (some false)) else (some false))) else (if a0_0 = 2 then (if a0_1 = true then (some false) else (if a0_2 = 0 then (some (a0_5 == 0)) else (some false))) else (if a0_0 = 3 then (if a0_1 = true then (some false) else (some (a0_2 == 0))) else (some false)))) else (some false))
theorem C_of3 (W : World) (B : Nat) (hB : W.heap.size = B) (a b c : Int) (t : TypeId) : Kd.C (Kd.int .i64) (W.alloc (.cells #[.int .i64 a,.int .i64 b,.int .i64 c] t)) (some ⟨B,0,none⟩) 3 [a,b,c]:=by
 subst hB
 have h : (Kd.int .i64).R t (W.alloc (.cells #[.int .i64 a,.int .i64 b,.int .i64 c] t)) W.heap.size (fun _=>True) (.slice (some ⟨W.heap.size,0,none⟩) 3 3) [a,b,c]:=
  ⟨fun _ _=>trivial,[.int .i64 a,.int .i64 b,.int .i64 c],World.ownsRow_lit (base:=W.heap.size) (e:=t) (size:=1) W #[.int .i64 a,.int .i64 b,.int .i64 c] 3 (Nat.le_refl _) (by decide) rfl,Reps.one rfl (Reps.one rfl (Reps.one rfl (Reps.none _ _)))⟩
 exact (Kd.R_reads' h).2.2
attribute [local go_sem] Oper.semAt_some
set_option maxHeartbeats 8000000 in
set_option maxRecDepth 100000 in
theorem conv_Is.calls (k : Nat) (a0_0 : Int) (a0_1 : Bool) (a0_2 : Int) (a0_3 : Int) (a0_4 : Int) (a0_5 : Int) (r : Bool) (w : World) (h : conv_Is.f k a0_0 a0_1 a0_2 a0_3 a0_4 a0_5 = some r) :
 Calls Try.prog 35 #[.agg #[.int .i64 a0_0,.bool a0_1,.int .i64 a0_2,.int .i64 a0_3,.int .i64 a0_4,.int .i64 a0_5]] w fun e w'=>e = .returned (.bool r) ∧ Below w.heap.size w w':=by
 unfold conv_Is.f at h
 obtain ⟨b,hb⟩ : ∃ b,conv_isCapital.f k [a0_3,a0_4,a0_5] = some b:=by
  cases hq : conv_isCapital.f k [a0_3,a0_4,a0_5] with
  | none=>rw [hq] at h;cases h
  | some b=>exact ⟨b,rfl⟩
 obtain ⟨d,hd⟩ : ∃ d,conv_isIn.f a0_2 0 6 = some d:=by
  unfold conv_isIn.f
  split
  ·exact ⟨_,rfl⟩
  ·exact ⟨_,rfl⟩
 rw [hb,hd] at h;simp only [Option.bind_some] at h;have HBC:=am hb;have HD:=am hd;have HR:=am h;clear hb hd h
 have hk : b = false ∨ (b = true ∧ ((a0_0 = 1 ∧ d = false) ∨ (a0_0 = 1 ∧ d = true ∧ a0_4 = 0) ∨ (a0_0 = 1 ∧ d = true ∧ a0_4 ≠ 0) ∨ (a0_0 = 2 ∧ a0_1 = true) ∨ (a0_0 = 2 ∧ a0_1 = false ∧ a0_2 = 0) ∨ (a0_0 = 2 ∧ a0_1 = false ∧ a0_2 ≠ 0) ∨ (a0_0 = 3 ∧ a0_1 = true) ∨ (a0_0 = 3 ∧ a0_1 = false) ∨ (a0_0 ≠ 1 ∧ a0_0 ≠ 2 ∧ a0_0 ≠ 3))):=by
  cases b <;> cases d <;> cases a0_1 <;> simp <;> omega
 rcases hk with rfl | ⟨rfl,⟨rfl,rfl⟩ | ⟨rfl,rfl,rfl⟩ | ⟨rfl,rfl,h4⟩ | ⟨rfl,rfl⟩ | ⟨rfl,rfl,rfl⟩ | ⟨rfl,rfl,h2⟩ | ⟨rfl,rfl⟩ | ⟨rfl,rfl⟩ | ⟨n1,n2,n3⟩⟩
 all_goals (
  (try have m4 : (a0_4 == 0) = false:=beq_eq_false_iff_ne.2 h4)
  (try have m2' : (a0_2 == 0) = false:=beq_eq_false_iff_ne.2 h2)
  (try have m1 : (a0_0 == 1) = false:=beq_eq_false_iff_ne.2 n1)
  (try have m2 : (a0_0 == 2) = false:=beq_eq_false_iff_ne.2 n2)
  (try have m3 : (a0_0 == 3) = false:=beq_eq_false_iff_ne.2 n3)
  go_enter Try.func35,Try.ntmps35
  go_wp2_with (first
   | (go_at_call 56;go_loud (refine (conv_isCapital.calls k (some ⟨w.heap.size + 1,0,none⟩) 3 [a0_3,_,_] _ _ (C_of3 (w.alloc _) (w.heap.size + 1) (by simp) _ _ _ _) (Nat.le_refl _) HBC.out).mono ?_;rintro e w3 ⟨rfl,⟨nd,rfl⟩⟩))
   | (go_at_call 57;refine (conv_isIn.calls a0_2 0 6 _ _ HD.out).mono ?_;rintro e w4 ⟨rfl,⟨nd2,rfl⟩⟩))
  go_ret
  refine ⟨?_,by repeat (first | exact Below.refl _ _ | apply pw_below_drewN | apply below_alloc)⟩;have hr:=HR.out
  simp_all)
-- NOT PRINTED: function 14 (code_IsExt)
end Go.Proofs.Ytilckocpgififaa.G
/- code.IsExt's contract (laid by mkisext2.py). -/
namespace Go.Proofs.Ytilckocpgififaa.G
open Go.Extern.Stop (cell)
open Go.RowKit Go.Proofs.YtilckocpgififaaW.PrintWords Go.Proofs.YtilckocpgififaaW.PrintLast Go.Proofs.YtilckocpgififaaW.PrintMore
set_option linter.unusedVariables false
set_option linter.unusedSimpArgs false
def inB (a lo hi : Int) : Bool:=decide (lo ≤ a ∧ a ≤ hi)
theorem isIn_f (a lo hi : Int) : code_isIn.f a lo hi = some (inB a lo hi):=by
 unfold code_isIn.f inB
 by_cases h : a ≥ lo
 rotate_left
 ·rw [if_neg h];congr 1;exact (decide_eq_false (fun q=>h q.1)).symm
 rw [if_pos h];congr 1;exact decide_eq_decide.2 ⟨fun q=>⟨h,q⟩,fun q=>q.2⟩
theorem isAccount_f (a : Int) : code_isAccount.f a = some (inB a 0 9):=by
 unfold code_isAccount.f;rw [isIn_f];rfl
def okE (x : Ext) (same vr cr : Bool) : Bool:=inB x.kind 1 11 && same && inB x.who 0 9 && inB x.dest 0 9 && inB x.amt 0 (if x.kind = 4 then 1000 else 1073741824) && inB x.rfd 0 11 && inB x.track 0 3 && inB x.level 0 6 && (decide (x.kind ≠ 7) || vr) && (decide (x.kind ≠ 2) || cr)
theorem load_run {P : Program} {o : Oper} {a : Act} {w : World} {ty : TypeId} {y : Operand} {g : Nat} {L : List Value} {d : TypeDesc} (ho : o.op = .load ty y) (hx : a.eval y = .pointer (some ⟨g,0,none⟩)) (h : w.rangeAt g 0 L) (hu : P.underlying ty = some d) (hd : d.isRow = true) (hi : (P.info? ty).map (·.size) = some L.length) :
 (execOp a.eval o).run P w = .ok (.value (.agg L.toArray)) w:=by
 unfold execOp
 simp only [ho,hx,Instr.loadAt,Instr.sureAddr,Sem.run_bind,Sem.run_pure,Result.andThen_ok,run_loadVar_mid w g 0 ty L d h hu hd hi]
def isExtR.T : Bool × List (List Nat × List Nat):=(true,[([],[]),([0],[0]),([1],[1]),([2,2],[2]),([3],[3]),([4,3,3],[3,4]),([3],[3]),([5,6,5,3],[3,5,6]),([3,7],[3,7]),([8,7],[8]),([9],[9]),([10,9],[9,10]),([11,9,9],[9,11]),([9,12],[9,12]),([13,12],[13]),([14],[14]),([15,14],[14,15]),([16,14,14],[14,16]),([14,17],[14,17]),([18,17],[18]),([19],[19]),([20,19],[19,20]),([19],[19]),([21,22,19,19],[19,21,22]),([19,23],[19,23]),([24,23],[24]),([25],[25]),([26,25],[25,26]),([27,25,25],[25,27]),([25,28],[25,28]),([29,28],[29]),([30],[30]),([31,30],[30,31]),([32,30,30],[30,32]),([30,33],[30,33]),([34,33],[34]),([35],[35]),([36,35],[35,36]),([37,35,35],[35,37]),([35,38],[35,38]),([39,38],[39]),([40],[40]),([41,40],[40,41]),([42,40],[40,42]),([43,40,40],[40,43]),([44],[44]),([45,44],[44,45]),([46,44,44],[44,46]),([44,47,40],[40,44,47]),([40,48],[40,48]),([49,47],[49]),([50],[50]),([51,50],[50,51]),([52,50],[50,52]),([53,50,50],[50,53]),([54],[54]),([55,54],[54,55]),([56,54,54],[54,56]),([54,57,50],[50,54,57]),([50,58],[50,58]),([59,57,0,1,2,3,4,5,6,7,8,9,10,11,12,13,14,15,16,17,18,19,20,21,22,23,24,25,26,27,28,29,30,31,32,33,34,35,36,37,38,39,40,41,42,43,44,45,46,47,48,49,50,51,52,53,54,55,56,57,58,59],[59])])
def isExtR.B : List Nat:=[0,1,3,7,15,31,15,127,255,511,1023,2047,4095,8191,16383,32767,65535,131071,262143,524287,1048575,2097151,1048575,8388607,16777215,33554431,67108863,134217727,268435455,536870911,1073741823,2147483647,4294967295,8589934591,17179869183,34359738367,68719476735,137438953471,274877906943,549755813887,1099511627775,2199023255551,4398046511103,8796093022207,17592186044415,35184372088831,70368744177663,140737488355327,281474976710655,562949953421311,1125899906842623,2251799813685247,4503599627370495,9007199254740991,18014398509481983,36028797018963967,72057594037927935,144115188075855871,288230376151711743,576460752303423487,1152921504606846975]
theorem isExtR.tab : rtab .any (opsOf Try.f14 4) = isExtR.T:=by kernel_rfl
theorem isExtR.bits : waitsOk isExtR.T.2 isExtR.B = true:=by kernel_rfl
def isExtR.l0 : Array Bool:=bl 61 1
def isExtR.l1 : Array Bool:=bl 61 3
def isExtR.l2 : Array Bool:=bl 61 7
def isExtR.l3 : Array Bool:=bl 61 15
def isExtR.l4 : Array Bool:=bl 61 31
def isExtR.l5 : Array Bool:=bl 61 63
def isExtR.l6 : Array Bool:=bl 61 127
def isExtR.l7 : Array Bool:=bl 61 255
def isExtR.l8 : Array Bool:=bl 61 511
def isExtR.l9 : Array Bool:=bl 61 1023
def isExtR.l10 : Array Bool:=bl 61 2047
def isExtR.l11 : Array Bool:=bl 61 4095
def isExtR.l12 : Array Bool:=bl 61 8191
def isExtR.l13 : Array Bool:=bl 61 16383
def isExtR.l14 : Array Bool:=bl 61 32767
def isExtR.l15 : Array Bool:=bl 61 65535
def isExtR.l16 : Array Bool:=bl 61 131071
def isExtR.l17 : Array Bool:=bl 61 262143
def isExtR.l18 : Array Bool:=bl 61 524287
def isExtR.l19 : Array Bool:=bl 61 1048575
def isExtR.l20 : Array Bool:=bl 61 2097151
def isExtR.l21 : Array Bool:=bl 61 4194303
def isExtR.l22 : Array Bool:=bl 61 8388607
def isExtR.l23 : Array Bool:=bl 61 16777215
def isExtR.l24 : Array Bool:=bl 61 33554431
def isExtR.l25 : Array Bool:=bl 61 67108863
def isExtR.l26 : Array Bool:=bl 61 134217727
def isExtR.l27 : Array Bool:=bl 61 268435455
def isExtR.l28 : Array Bool:=bl 61 536870911
def isExtR.l29 : Array Bool:=bl 61 1073741823
def isExtR.l30 : Array Bool:=bl 61 2147483647
def isExtR.l31 : Array Bool:=bl 61 4294967295
def isExtR.l32 : Array Bool:=bl 61 8589934591
def isExtR.l33 : Array Bool:=bl 61 17179869183
def isExtR.l34 : Array Bool:=bl 61 34359738367
def isExtR.l35 : Array Bool:=bl 61 68719476735
def isExtR.l36 : Array Bool:=bl 61 137438953471
def isExtR.l37 : Array Bool:=bl 61 274877906943
def isExtR.l38 : Array Bool:=bl 61 549755813887
def isExtR.l39 : Array Bool:=bl 61 1099511627775
def isExtR.l40 : Array Bool:=bl 61 2199023255551
def isExtR.l41 : Array Bool:=bl 61 4398046511103
def isExtR.l42 : Array Bool:=bl 61 8796093022207
def isExtR.l43 : Array Bool:=bl 61 17592186044415
def isExtR.l44 : Array Bool:=bl 61 35184372088831
def isExtR.l45 : Array Bool:=bl 61 70368744177663
def isExtR.l46 : Array Bool:=bl 61 140737488355327
def isExtR.l47 : Array Bool:=bl 61 281474976710655
def isExtR.l48 : Array Bool:=bl 61 562949953421311
def isExtR.l49 : Array Bool:=bl 61 1125899906842623
def isExtR.l50 : Array Bool:=bl 61 2251799813685247
def isExtR.l51 : Array Bool:=bl 61 4503599627370495
def isExtR.l52 : Array Bool:=bl 61 9007199254740991
def isExtR.l53 : Array Bool:=bl 61 18014398509481983
def isExtR.l54 : Array Bool:=bl 61 36028797018963967
def isExtR.l55 : Array Bool:=bl 61 72057594037927935
def isExtR.l56 : Array Bool:=bl 61 144115188075855871
def isExtR.l57 : Array Bool:=bl 61 288230376151711743
def isExtR.l58 : Array Bool:=bl 61 576460752303423487
def isExtR.l59 : Array Bool:=bl 61 1152921504606846975
def isExtR.l60 : Array Bool:=bl 61 2305843009213693951
def isExtR.l61 : Array Bool:=bl 61 95
end Go.Proofs.Ytilckocpgififaa.G
