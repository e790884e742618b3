/- code.named: an extrinsic without what its kind does not name. -/
import Derived.Test.YtilckocpgififaaDoorScHExt
import Derived.Laws.Tables
import Derived.Test.YtilckocpgififaaDoorScHStep
import Derived.Test.YtilckocpgififaaDoorScHSameCall
import Derived.Test.YtilckocpgififaaDoorScGx4
namespace Go.Proofs.YtilckocpgififaaDoor.G
open Go.Extern.Stop (cell)
open Go.RowKit Go.Proofs.YtilckocpgififaaDoorW.PrintWords Go.Proofs.YtilckocpgififaaDoorW.PrintLast Go.Proofs.YtilckocpgififaaDoorW.PrintMore
set_option linter.unusedVariables false
set_option linter.unusedSimpArgs false
def zSum : List UInt8:=List.replicate 32 0
def z0 : S24:=⟨0,0,0,[]⟩
def ext0 (k who : Int) : Ext:=⟨k,who,0,0,0,0,0,zSum,0,false,0,0,0,0,z0⟩
theorem built_ext (k who : Int) : Tryd.prog.built 51 [(0,.int .i64 k),(1,.int .i64 who)] = some ((ext0 k who).cells none 0).toArray:=by kernel_rfl
theorem info_ext : (Tryd.prog.info? 51).map (fun i=>(i.zero,i.size)) = some (some (.agg ((ext0 0 0).cells none 0).toArray),49):=by kernel_rfl
theorem info_ext' : (Tryd.prog.info? 51).map (·.size) = some 49:=by kernel_rfl
theorem results_cellN {P : Program} {fn : Func} {t : Tmp} {ty : TypeId} (h : fn.results = #[.cell t ty]) (tmps : Array Value) {w : World} {g : Nat} {v : Value} (hp : tmps.getD t undef = .pointer (some ⟨g,0,none⟩)) (hv : (loadVar ty ⟨g,0,none⟩).run P w = .ok v w) : (results fn tmps).run P w = .ok v w:=by
 have hp' : tmps[t]?.getD undef = .pointer (some ⟨g,0,none⟩):=by rw [← hp];simp
 simp [results,h,hp',asAddr,hv]
theorem below_setCellsN {B : Nat} {w0 : World} (g : Nat) (hg : B ≤ g) : ∀ (L : List Value) (o : Nat) (w : World),Below B w0 w → Below B w0 (w.setCells g o L)
 | [],_,_,h=>h
 | v :: L,o,w,h=>below_setCellsN g hg L (o + 1) _ (h.setCell (p:=⟨g,o,none⟩) hg v)
theorem there_boxN {w : World} {g t : Nat} {L : List Value} (h : w.heap[g]? = some (.cells L.toArray t (0,0))) : w.there g 0 L.length:=fun j hj=>by
 constructor
 ·rw [Nat.zero_add,blk_cell h j];simp [hj]
 ·rw [Nat.zero_add];exact blk_frozen h j
theorem there_setCellN {w : World} {g o n : Nat} (h : w.there g o n) (b i : Nat) (v : Value) : (w.setCell ⟨b,i,none⟩ v).there g o n:=World.there_setCells h b i [v]
theorem set_range {w : World} {g : Nat} {L : List Value} (h : w.rangeAt g 0 L) (ht : w.there g 0 L.length) (i : Nat) (hi : i < L.length) (v : Value) : (w.setCell ⟨g,i,none⟩ v).rangeAt g 0 (L.set i v):=fun j u hj=>by
 rw [Nat.zero_add]
 by_cases e : i = j
 rotate_left
 ·rw [List.getElem?_set_ne e] at hj;rw [World.cell?_setCell_other w _ _ _ (fun q=>e (by cases q;rfl))];have:=h j u hj;rwa [Nat.zero_add] at this
 subst e;have:=(ht i hi).1;rw [Nat.zero_add] at this;rw [List.getElem?_set_self hi] at hj;cases hj;obtain ⟨u0,hu0⟩:=Option.isSome_iff_exists.1 this;exact World.cell?_setCell_same w _ _ hu0
theorem zero_ext (w : World) : (zeroValue 51).run Tryd.prog w = .ok (.agg ((ext0 0 0).cells none 0).toArray) w:=by
 have h:=info_ext;obtain ⟨Z,hZ⟩ : ∃ Z,Z = (ext0 0 0).cells none 0:=⟨_,rfl⟩;rw [← hZ] at h ⊢
 cases hi : Tryd.prog.info? 51 with
 | none=>rw [hi] at h;cases h
 | some i=>rw [hi] at h;simp at h;simp [zeroValue,typeInfo,hi,h.1,go_sem]
end Go.Proofs.YtilckocpgififaaDoor.G
/- code.SameExt's contract. -/
namespace Go.Proofs.YtilckocpgififaaDoor.G
open Go.Extern.Stop (cell)
open Go.RowKit Go.Proofs.YtilckocpgififaaDoorW.PrintWords Go.Proofs.YtilckocpgififaaDoorW.PrintLast Go.Proofs.YtilckocpgififaaDoorW.PrintMore
set_option linter.unusedVariables false
set_option linter.unusedSimpArgs false
set_option maxRecDepth 100000 in
set_option maxHeartbeats 16000000 in
theorem code_SameExt.calls (f : Nat) (x y : Ext) (A B : Option Addr) (c d : Nat) (r : Bool) (w : World) (hx : x.sum.length = 32) (hy : y.sum.length = 32) (hC : Kd.C k24 w A x.call.f3.length x.call.f3) (hc : x.call.f3.length ≤ c) (hD : Kd.C k24 w B y.call.f3.length y.call.f3) (hd : y.call.f3.length ≤ d) (hr : sameF f x.call y.call = some r) :
 Calls Tryd.prog 34 #[.agg (x.cells A c).toArray,.agg (y.cells B d).toArray] w fun e w'=>e = .returned (.bool (r && sameX x y)) ∧ Below w.heap.size w w':=by
 obtain ⟨X,hX⟩ : ∃ X,X = (x.cells A c).toArray:=⟨_,rfl⟩;obtain ⟨Y,hY⟩ : ∃ Y,Y = (y.cells B d).toArray:=⟨_,rfl⟩;rw [← hX,← hY];have HX:=am hX;have HY:=am hY;have HC:=am hC;have HD:=am hD;have HR:=am hr;have Hx:=am hx;have Hy:=am hy;clear hX hY hC hD hr hx hy;go_enter Tryd.func34,Tryd.ntmps34
 go_upto_region 1 with (first
  | ((with_reducible refine gate_dst (N:=2) rfl ?_);refine box_event ?hg (N:=2) ?hd (cs:=X) (t:=51) ?hr ?_;(case hd=>rfl);(case hg=>rfl);(case hr=>first | (go_simp;done) | (go_simp;rfl));intro g1 hg1 w1 hbox1 hb1;have G1:=am hg1;have BX1:=am (rangeAt_boxN (HX.out ▸ hbox1));have HXlt:=am (blk_lt hbox1);have HB1:=am hb1;clear hg1 hbox1 hb1)
  | ((with_reducible refine gate_dst (N:=3) rfl ?_);refine box_event ?hg (N:=3) ?hd (cs:=Y) (t:=51) ?hr ?_;(case hd=>rfl);(case hg=>rfl);(case hr=>first | (go_simp;done) | (go_simp;rfl));intro g2 hg2 w2 hbox2 hb2;have G2:=am hg2;have BY2:=am (rangeAt_boxN (HY.out ▸ hbox2));have HYlt:=am (blk_lt hbox2);have HB2:=am hb2;clear hg2 hbox2 hb2))
 have BX2:=am (rangeAt_belowN BX1.out HB2.out (by have:=HB1.out.size;have:=G1.out;have:=HXlt.out;omega));obtain ⟨p0,p1,p2,p3⟩:=x.at_call A c Hx.out BX2.out;obtain ⟨q0,q1,q2,q3⟩:=y.at_call B d Hy.out BY2.out
 have n1 : w2.heap.size ≠ g1:=by have:=HB2.out.size;have:=HXlt.out;omega
 have n2 : w2.heap.size + 1 ≠ g1:=by have:=HB2.out.size;have:=HXlt.out;omega
 have n3 : w2.heap.size ≠ g2:=by have:=HYlt.out;omega
 have n4 : w2.heap.size + 1 ≠ g2:=by have:=HYlt.out;omega
 go_region_held3 (fun w'=>w'.cell? ⟨g1,45,none⟩ = some (.int .i64 x.call.f0) ∧ w'.cell? ⟨g1,46,none⟩ = some (.int .i64 x.call.f1) ∧ w'.cell? ⟨g1,47,none⟩ = some (.int .i64 x.call.f2) ∧ w'.cell? ⟨g1,48,none⟩ = some (.slice A x.call.f3.length c) ∧ w'.cell? ⟨g2,45,none⟩ = some (.int .i64 y.call.f0) ∧ w'.cell? ⟨g2,46,none⟩ = some (.int .i64 y.call.f1) ∧ w'.cell? ⟨g2,47,none⟩ = some (.int .i64 y.call.f2) ∧ w'.cell? ⟨g2,48,none⟩ = some (.slice B y.call.f3.length d)) (go_keep) (fail)
 all_goals clear p0 p1 p2 p3 q0 q1 q2 q3 n1 n2 n3 n4
 all_goals (rename_i hh_;clear hh_)
 all_goals have HB3 : Aside0 (∀ o1 o2,Below w2.heap.size w2 ((w2.alloc o1).alloc o2).drew):=⟨fun o1 o2=>below_drew (((Below.refl _ w2).alloc (Nat.le_refl _) _).alloc (by simp) _)⟩
 all_goals have Heq:=eql_sum x y Hx.out Hy.out
 all_goals (
  cases r with
  | false=>
    go_wp2_with (go_at_call 16;refine (code_SameCall.calls f x.call y.call A B c d false _ (Kd.C_below HC.out (below_step (below_step HB1.out HB2.out) (HB3.out _ _))) hc (Kd.C_below HD.out (below_step (below_step HB1.out HB2.out) (HB3.out _ _))) hd HR.out).mono ?_;rintro e w4 ⟨rfl,hb4⟩;have HB4:=am (below_step (below_step (below_step HB1.out HB2.out) (HB3.out _ _)) hb4))
    go_ret
    exact ⟨rfl,HB4.out⟩
  | true=>
    go_wp2_with (first
     | (go_at_call 16;refine (code_SameCall.calls f x.call y.call A B c d true _ (Kd.C_below HC.out (below_step (below_step HB1.out HB2.out) (HB3.out _ _))) hc (Kd.C_below HD.out (below_step (below_step HB1.out HB2.out) (HB3.out _ _))) hd HR.out).mono ?_;rintro e w4 ⟨rfl,hb4⟩;have HB4:=am (below_step (below_step (below_step HB1.out HB2.out) (HB3.out _ _)) hb4);have BX4:=rangeAt_belowN (rangeAt_belowN BX2.out (HB3.out _ _) (by have:=HB2.out.size;have:=HXlt.out;omega)) hb4 (by simp;have:=HB2.out.size;have:=HXlt.out;omega);have BY4:=rangeAt_belowN (rangeAt_belowN BY2.out (HB3.out _ _) HYlt.out) hb4 (by simp;have:=HYlt.out;omega);obtain ⟨p0,p1,p2,p3,p4,p5,p6⟩:=x.at_head A c BX4;obtain ⟨q0,q1,q2,q3,q4,q5,q6⟩:=y.at_head B d BY4;obtain ⟨u0,u1,u2,u3,u4,u5⟩:=x.at_vote A c Hx.out BX4;obtain ⟨v0,v1,v2,v3,v4,v5⟩:=y.at_vote B d Hy.out BY4;have S4:=am (x.at_sum A c BX4);have T4:=am (y.at_sum B d BY4);clear BX4 BY4 hb4)
     | ((with_reducible refine gate_dst (N:=67) rfl ?_);(try (refine gate_guard (by rfl) ?_;dsimp only));refine wpList_load_mid rfl 31 _ rfl g1 7 rfl (x.sum.map cell) _ S4.out Tryd.underlying31 rfl (by rw [List.length_map,Hx.out];exact info_hash) ?_)
     | ((with_reducible refine gate_dst (N:=69) rfl ?_);(try (refine gate_guard (by rfl) ?_;dsimp only));refine wpList_load_mid rfl 31 _ rfl g2 7 rfl (y.sum.map cell) _ T4.out Tryd.underlying31 rfl (by rw [List.length_map,Hy.out];exact info_hash) ?_)
     | go_in)
    all_goals go_ret
    all_goals exact ⟨by simp [sameX, *],HB4.out⟩)
end Go.Proofs.YtilckocpgififaaDoor.G
-- Laid by this session's own program gprint.py over the kit's print (given functions are proved by hand).
namespace Go.Proofs.YtilckocpgififaaDoor.G
open Go.RowKit Go.Proofs.YtilckocpgififaaDoorW.PrintWords Go.Proofs.YtilckocpgififaaDoorW.PrintLast Go.Proofs.YtilckocpgififaaDoorW.PrintMore
attribute [local go_sem] max2_int min2_int max_two min_two max_three min_three max_four min_four   -- for this text's walks alone
set_option linter.unusedVariables false
set_option linter.unusedSimpArgs false
/-! ### code_IsCall: function 14 -/
def code_IsCall.f (a0_0 : Int) (a0_1 : Int) (a0_2 : Int) (l0_3 : List (S24)) : Option (Bool):=(code_isCall.f a0_0 a0_1 a0_2 l0_3 0).bind fun t106=>(some t106)
set_option maxHeartbeats 8000000 in
set_option maxRecDepth 100000 in
theorem code_IsCall.calls (a0_0 : Int) (a0_1 : Int) (a0_2 : Int) (A0_3 : Option Addr) (c0_3 : Nat) (l0_3 : List (S24)) (r : Bool) (w : World) (hr0_3 : Kd.C k24 w A0_3 l0_3.length l0_3) (hc0_3 : l0_3.length ≤ c0_3) (h : code_IsCall.f a0_0 a0_1 a0_2 l0_3 = some r) :
 Calls Tryd.prog 14 #[.agg #[.int .i64 a0_0,.int .i64 a0_1,.int .i64 a0_2,.slice A0_3 l0_3.length c0_3]] w fun e w'=>e = .returned (.bool r) ∧ Below w.heap.size w w':=by
 have hu24:=Tryd.underlying24;have HR0_3:=am hr0_3;have HC0_3:=am hc0_3;clear hr0_3 hc0_3;have HB:=am (Below.refl w.heap.size w);have H : ((code_isCall.f a0_0 a0_1 a0_2 l0_3 0).bind fun t106=>(some t106)) = some r:=h;clear h;replace H:=Option.bind_eq_some_iff.mp H;obtain ⟨t106,A20,H⟩:=H;replace H : (some t106) = some r:=H;have A2:=am A20;clear A20;obtain rfl:=Option.some.inj H;go_enter Tryd.func14,Tryd.ntmps14
 go_wp2_with (first | ((with_reducible refine gate_dst (N:=1) rfl ?_);refine box_event ?hg (N:=1) ?hd (cs:=#[.int .i64 a0_0,.int .i64 a0_1,.int .i64 a0_2,.slice A0_3 l0_3.length c0_3]) (t:=24) ?hr ?_;(case hd=>rfl);(case hg=>rfl);(case hr=>first | (go_simp;done) | (go_simp;rfl));intro gb105 hg w3 hbox hb;have n0_:=am (below_step (by exact bq HB.out) hb);have n1_:=am (hbox);have n2_:=am ((by rw [hg];exact (below_size (by exact bq HB.out)) : w.heap.size ≤ gb105));have n3_:=am ((by rw [hg];exact (below_size (by exact bq HB.out)) : w.heap.size ≤ gb105));clear HB;have HB:=n0_;have BK105:=n1_;have GW105:=n2_;have GE105:=n3_;clear n0_ n1_ n2_ n3_;clear hb hbox hg;have hcz4_0 : w3.cell? ⟨gb105,0,none⟩ = some (.int .i64 a0_0):=(blk_cell BK105.out 0).trans rfl;have hcz4_1 : w3.cell? ⟨gb105,1,none⟩ = some (.int .i64 a0_1):=(blk_cell BK105.out 1).trans rfl;have hcz4_2 : w3.cell? ⟨gb105,2,none⟩ = some (.int .i64 a0_2):=(blk_cell BK105.out 2).trans rfl;have hcz4_3 : w3.cell? ⟨gb105,3,none⟩ = some (.slice A0_3 l0_3.length c0_3):=(blk_cell BK105.out 3).trans rfl;have hfz4_0:=blk_frozen BK105.out 0;have hfz4_1:=blk_frozen BK105.out 1;have hfz4_2:=blk_frozen BK105.out 2;have hfz4_3:=blk_frozen BK105.out 3) | ((with_reducible refine gate_callee (f:=25) rfl ?_);refine gl (some 4) Tryd.func25 #[.agg #[.int .i64 a0_0,.int .i64 a0_1,.int .i64 a0_2,.slice A0_3 l0_3.length c0_3],.int .i64 0] ?_;(with_reducible refine (code_isCall.calls a0_0 a0_1 a0_2 _ _ l0_3 0 t106 _ ?side1 ?side2 A2.out).mono ?_);(case side1=>repeat (first | exact (Kd.C_below HR0_3.out HB.out) | (with_reducible refine Kd.C_alloc ?_ _) | (with_reducible refine Kd.C_drewN ?_ _) | (with_reducible refine Kd.C_drew ?_)));(case side2=>exact HC0_3.out);rintro e w5 ⟨rfl,hb⟩;refine ⟨_,rfl,?_⟩;have n0_:=am (blk_below (g:=gb105) (o:= .cells #[.int .i64 a0_0,.int .i64 a0_1,.int .i64 a0_2,.slice A0_3 l0_3.length c0_3] 24 (0,0)) (by exact kq BK105.out) hb);have n1_:=am (below_step (by repeat (first | (with_reducible first | exact HB.out | apply ba | apply bn | apply bd | refine tb_ ?_ GE105.out) | exact HB.out)) hb);clear BK105;clear HB;have BK105:=n0_;have HB:=n1_;clear n0_ n1_;(try clear hb);(try clear hb2);(try clear hk);(try clear hi)))
 go_ret
 exact ⟨by first | rfl | (simp [errW_none,errW_some] <;> rfl) | (simp [*,errW_none,errW_some] <;> rfl),by repeat (first | (with_reducible first | exact HB.out | apply ba | apply bn | apply bd | refine tb_ ?_ GE105.out) | exact HB.out)⟩
end Go.Proofs.YtilckocpgififaaDoor.G
/- code.IsExt's contract (laid by mkisext2.py). -/
namespace Go.Proofs.YtilckocpgififaaDoor.G
open Go.Extern.Stop (cell)
open Go.RowKit Go.Proofs.YtilckocpgififaaDoorW.PrintWords Go.Proofs.YtilckocpgififaaDoorW.PrintLast Go.Proofs.YtilckocpgififaaDoorW.PrintMore
set_option linter.unusedVariables false
set_option linter.unusedSimpArgs false
def inB (a lo hi : Int) : Bool:=decide (lo ≤ a ∧ a ≤ hi)
theorem isIn_f (a lo hi : Int) : code_isIn.f a lo hi = some (inB a lo hi):=by
 unfold code_isIn.f inB
 by_cases h : a ≥ lo
 rotate_left
 ·rw [if_neg h];congr 1;exact (decide_eq_false (fun q=>h q.1)).symm
 rw [if_pos h];congr 1;exact decide_eq_decide.2 ⟨fun q=>⟨h,q⟩,fun q=>q.2⟩
theorem isAccount_f (a : Int) : code_isAccount.f a = some (inB a 0 9):=by
 unfold code_isAccount.f;rw [isIn_f];rfl
def okE (x : Ext) (same vr cr : Bool) : Bool:=inB x.kind 1 11 && same && inB x.who 0 9 && inB x.dest 0 9 && inB x.amt 0 (if x.kind = 4 then 1000 else 1073741824) && inB x.rfd 0 11 && inB x.track 0 3 && inB x.level 0 6 && (decide (x.kind ≠ 7) || vr) && (decide (x.kind ≠ 2) || cr)
theorem load_runN {P : Program} {o : Oper} {a : Act} {w : World} {ty : TypeId} {y : Operand} {g : Nat} {L : List Value} {d : TypeDesc} (ho : o.op = .load ty y) (hx : a.eval y = .pointer (some ⟨g,0,none⟩)) (h : w.rangeAt g 0 L) (hu : P.underlying ty = some d) (hd : d.isRow = true) (hi : (P.info? ty).map (·.size) = some L.length) :
 (execOp a.eval o).run P w = .ok (.value (.agg L.toArray)) w:=by
 unfold execOp
 simp only [ho,hx,Instr.loadAt,Instr.sureAddr,Sem.run_bind,Sem.run_pure,Result.andThen_ok,run_loadVar_mid w g 0 ty L d h hu hd hi]
def isExtR.T : Bool × List (List Nat × List Nat):=(true,[([],[]),([0],[0]),([1],[1]),([2,2],[2]),([3],[3]),([4,3,3],[3,4]),([3],[3]),([5,6,5,3],[3,5,6]),([3,7],[3,7]),([8,7],[8]),([9],[9]),([10,9],[9,10]),([11,9,9],[9,11]),([9,12],[9,12]),([13,12],[13]),([14],[14]),([15,14],[14,15]),([16,14,14],[14,16]),([14,17],[14,17]),([18,17],[18]),([19],[19]),([20,19],[19,20]),([19],[19]),([21,22,19,19],[19,21,22]),([19,23],[19,23]),([24,23],[24]),([25],[25]),([26,25],[25,26]),([27,25,25],[25,27]),([25,28],[25,28]),([29,28],[29]),([30],[30]),([31,30],[30,31]),([32,30,30],[30,32]),([30,33],[30,33]),([34,33],[34]),([35],[35]),([36,35],[35,36]),([37,35,35],[35,37]),([35,38],[35,38]),([39,38],[39]),([40],[40]),([41,40],[40,41]),([42,40],[40,42]),([43,40,40],[40,43]),([44],[44]),([45,44],[44,45]),([46,44,44],[44,46]),([44,47,40],[40,44,47]),([40,48],[40,48]),([49,47],[49]),([50],[50]),([51,50],[50,51]),([52,50],[50,52]),([53,50,50],[50,53]),([54],[54]),([55,54],[54,55]),([56,54,54],[54,56]),([54,57,50],[50,54,57]),([50,58],[50,58]),([59,57,0,1,2,3,4,5,6,7,8,9,10,11,12,13,14,15,16,17,18,19,20,21,22,23,24,25,26,27,28,29,30,31,32,33,34,35,36,37,38,39,40,41,42,43,44,45,46,47,48,49,50,51,52,53,54,55,56,57,58,59],[59])])
def isExtR.B : List Nat:=[0,1,3,7,15,31,15,127,255,511,1023,2047,4095,8191,16383,32767,65535,131071,262143,524287,1048575,2097151,1048575,8388607,16777215,33554431,67108863,134217727,268435455,536870911,1073741823,2147483647,4294967295,8589934591,17179869183,34359738367,68719476735,137438953471,274877906943,549755813887,1099511627775,2199023255551,4398046511103,8796093022207,17592186044415,35184372088831,70368744177663,140737488355327,281474976710655,562949953421311,1125899906842623,2251799813685247,4503599627370495,9007199254740991,18014398509481983,36028797018963967,72057594037927935,144115188075855871,288230376151711743,576460752303423487,1152921504606846975]
theorem isExtR.tab : rtab .any (opsOf Tryd.f21 4) = isExtR.T:=by kernel_rfl
theorem isExtR.bits : waitsOk isExtR.T.2 isExtR.B = true:=by kernel_rfl
def isExtR.l0 : Array Bool:=bl 61 1
def isExtR.l1 : Array Bool:=bl 61 3
def isExtR.l2 : Array Bool:=bl 61 7
def isExtR.l3 : Array Bool:=bl 61 15
def isExtR.l4 : Array Bool:=bl 61 31
def isExtR.l5 : Array Bool:=bl 61 63
def isExtR.l6 : Array Bool:=bl 61 127
def isExtR.l7 : Array Bool:=bl 61 255
def isExtR.l8 : Array Bool:=bl 61 511
def isExtR.l9 : Array Bool:=bl 61 1023
def isExtR.l10 : Array Bool:=bl 61 2047
def isExtR.l11 : Array Bool:=bl 61 4095
def isExtR.l12 : Array Bool:=bl 61 8191
def isExtR.l13 : Array Bool:=bl 61 16383
def isExtR.l14 : Array Bool:=bl 61 32767
def isExtR.l15 : Array Bool:=bl 61 65535
def isExtR.l16 : Array Bool:=bl 61 131071
def isExtR.l17 : Array Bool:=bl 61 262143
def isExtR.l18 : Array Bool:=bl 61 524287
def isExtR.l19 : Array Bool:=bl 61 1048575
def isExtR.l20 : Array Bool:=bl 61 2097151
def isExtR.l21 : Array Bool:=bl 61 4194303
def isExtR.l22 : Array Bool:=bl 61 8388607
def isExtR.l23 : Array Bool:=bl 61 16777215
def isExtR.l24 : Array Bool:=bl 61 33554431
def isExtR.l25 : Array Bool:=bl 61 67108863
def isExtR.l26 : Array Bool:=bl 61 134217727
def isExtR.l27 : Array Bool:=bl 61 268435455
def isExtR.l28 : Array Bool:=bl 61 536870911
def isExtR.l29 : Array Bool:=bl 61 1073741823
def isExtR.l30 : Array Bool:=bl 61 2147483647
def isExtR.l31 : Array Bool:=bl 61 4294967295
def isExtR.l32 : Array Bool:=bl 61 8589934591
def isExtR.l33 : Array Bool:=bl 61 17179869183
def isExtR.l34 : Array Bool:=bl 61 34359738367
def isExtR.l35 : Array Bool:=bl 61 68719476735
def isExtR.l36 : Array Bool:=bl 61 137438953471
def isExtR.l37 : Array Bool:=bl 61 274877906943
def isExtR.l38 : Array Bool:=bl 61 549755813887
def isExtR.l39 : Array Bool:=bl 61 1099511627775
def isExtR.l40 : Array Bool:=bl 61 2199023255551
def isExtR.l41 : Array Bool:=bl 61 4398046511103
def isExtR.l42 : Array Bool:=bl 61 8796093022207
def isExtR.l43 : Array Bool:=bl 61 17592186044415
def isExtR.l44 : Array Bool:=bl 61 35184372088831
def isExtR.l45 : Array Bool:=bl 61 70368744177663
def isExtR.l46 : Array Bool:=bl 61 140737488355327
def isExtR.l47 : Array Bool:=bl 61 281474976710655
def isExtR.l48 : Array Bool:=bl 61 562949953421311
def isExtR.l49 : Array Bool:=bl 61 1125899906842623
def isExtR.l50 : Array Bool:=bl 61 2251799813685247
def isExtR.l51 : Array Bool:=bl 61 4503599627370495
def isExtR.l52 : Array Bool:=bl 61 9007199254740991
def isExtR.l53 : Array Bool:=bl 61 18014398509481983
def isExtR.l54 : Array Bool:=bl 61 36028797018963967
def isExtR.l55 : Array Bool:=bl 61 72057594037927935
def isExtR.l56 : Array Bool:=bl 61 144115188075855871
def isExtR.l57 : Array Bool:=bl 61 288230376151711743
def isExtR.l58 : Array Bool:=bl 61 576460752303423487
def isExtR.l59 : Array Bool:=bl 61 1152921504606846975
def isExtR.l60 : Array Bool:=bl 61 2305843009213693951
def isExtR.l61 : Array Bool:=bl 61 95
end Go.Proofs.YtilckocpgififaaDoor.G
/- code.IsExt's contract, submit (laid by mkisext2.py). -/
namespace Go.Proofs.YtilckocpgififaaDoor.G
open Go.Extern.Stop (cell)
open Go.RowKit Go.Proofs.YtilckocpgififaaDoorW.PrintWords Go.Proofs.YtilckocpgififaaDoorW.PrintLast Go.Proofs.YtilckocpgififaaDoorW.PrintMore
set_option linter.unusedVariables false
set_option linter.unusedSimpArgs false
set_option maxRecDepth 100000 in
set_option maxHeartbeats 64000000 in
theorem isExt_submit (x : Ext) (A : Option Addr) (c : Nat) (w : World) (hx : x.sum.length = 32) (hC : Kd.C k24 w A x.call.f3.length x.call.f3) (hc : x.call.f3.length ≤ c)
 (N : Array Value) (same : Bool) (hN : ∀ w,Calls Tryd.prog 35 #[.agg (x.cells A c).toArray] w fun e w'=>e = .returned (.agg N) ∧ Below w.heap.size w w')
 (hS : ∀ w1,Below w.heap.size w w1 → Calls Tryd.prog 34 #[.agg N,.agg (x.cells A c).toArray] w1 fun e w'=>e = .returned (.bool same) ∧ Below w1.heap.size w1 w')
 (hk4 : x.kind = 4) (kv : Nat) (vr : Bool) (hv : conv_Is.f kv x.vkind x.vaye x.vlevel x.va x.vn x.vs = some vr) :
 Calls Tryd.prog 21 #[.agg (x.cells A c).toArray] w fun e w'=>e = .returned (.bool (okE x same vr (okC 3 x.call.f0 x.call.f1 x.call.f2 x.call.f3))) ∧ Below w.heap.size w w':=by
 obtain ⟨L,hL⟩ : ∃ L,L = x.cells A c:=⟨_,rfl⟩;obtain ⟨M,hM⟩ : ∃ M : Int,M = if x.kind = 4 then 1000 else 1073741824:=⟨_,rfl⟩;obtain ⟨cr,hcr⟩ : ∃ b,okC 3 x.call.f0 x.call.f1 x.call.f2 x.call.f3 = b:=⟨_,rfl⟩;have ECR:=am (show code_IsCall.f x.call.f0 x.call.f1 x.call.f2 x.call.f3 = some cr by simp [code_IsCall.f,code_isCall.f,hcr]);rw [hcr];rw [← hL] at hN hS ⊢;have HIE:=am (show (Tryd.prog.info? 51).map (·.size) = some L.length by rw [hL,Ext.cells_length _ _ _ hx];exact info_ext');have HL:=am hL;have HC:=am hC;have Hc:=am hc;have Hx:=am hx;have HN:=am hN;have HSm:=am hS;have HV:=am hv;have HM:=am hM;clear hL hC hc hx hN hS hv hM hcr;obtain ⟨b1,e1⟩ : ∃ b,inB x.kind 1 11 = b:=⟨_,rfl⟩;obtain ⟨b3,e3⟩ : ∃ b,inB x.who 0 9 = b:=⟨_,rfl⟩;obtain ⟨b4,e4⟩ : ∃ b,inB x.dest 0 9 = b:=⟨_,rfl⟩;obtain ⟨b5,e5⟩ : ∃ b,inB x.amt 0 M = b:=⟨_,rfl⟩;obtain ⟨b6,e6⟩ : ∃ b,inB x.rfd 0 11 = b:=⟨_,rfl⟩;obtain ⟨b7,e7⟩ : ∃ b,inB x.track 0 3 = b:=⟨_,rfl⟩;obtain ⟨b8,e8⟩ : ∃ b,inB x.level 0 6 = b:=⟨_,rfl⟩;have E1:=am (e1 ▸ isIn_f x.kind 1 11);have E3:=am (e3 ▸ isAccount_f x.who);have E4:=am (e4 ▸ isAccount_f x.dest);have E5:=am (e5 ▸ isIn_f x.amt 0 M);have E6:=am (e6 ▸ isIn_f x.rfd 0 11);have E7:=am (e7 ▸ isIn_f x.track 0 3);have E8:=am (e8 ▸ isIn_f x.level 0 6);go_enter Tryd.func21,Tryd.ntmps21
 go_upto_region 2 with (first
  | ((with_reducible refine gate_dst (N:=1) rfl ?_);refine box_event ?hg (N:=1) ?hd (cs:=L.toArray) (t:=51) ?hr ?_;(case hd=>rfl);(case hg=>rfl);(case hr=>first | (go_simp;done) | (go_simp;rfl));intro g1 hg1 w1 hbox1 hb1;have BX1:=am (rangeAt_boxN hbox1);have HXlt:=am (blk_lt hbox1);have HB1:=am hb1;clear hg1 hbox1 hb1))
 have HCA:=am (fun (w' : World) (h : w'.rangeAt g1 0 L)=>x.at_head A c (HL.out ▸ h));have HCV:=am (fun (w' : World) (h : w'.rangeAt g1 0 L)=>x.at_vote A c Hx.out (HL.out ▸ h));have HCC:=am (fun (w' : World) (h : w'.rangeAt g1 0 L)=>x.at_call A c Hx.out (HL.out ▸ h));have HC0:=am (fun (w' : World) (h : w'.rangeAt g1 0 L)=>(HCA.out w' h).1);have HC1:=am (fun (w' : World) (h : w'.rangeAt g1 0 L)=>(HCA.out w' h).2.1);have HC2:=am (fun (w' : World) (h : w'.rangeAt g1 0 L)=>(HCA.out w' h).2.2.1);have HC3:=am (fun (w' : World) (h : w'.rangeAt g1 0 L)=>(HCA.out w' h).2.2.2.1);have HC4:=am (fun (w' : World) (h : w'.rangeAt g1 0 L)=>(HCA.out w' h).2.2.2.2.1);have HC5:=am (fun (w' : World) (h : w'.rangeAt g1 0 L)=>(HCA.out w' h).2.2.2.2.2.1);have HC6:=am (fun (w' : World) (h : w'.rangeAt g1 0 L)=>(HCA.out w' h).2.2.2.2.2.2);have hR0:=BX1.out;have hT0:=HB1.out;have hZ0:=HXlt.out;have p0:=HC0.out w1 hR0;have hM:=HM.out;rw [if_pos hk4] at hM;subst hM
 go_upto_region 4 with (fail)
 clear p0;have HK4:=am hk4;clear hk4;refine start_ (n:=61) (S:=fun w'=>w'.rangeAt g1 0 L) (ds:=[]) (bl 61 0) (by kernel_rfl) rfl rfl ((World.rangeAt_drew w1 g1 0 L).2 hR0) (fun hHeld=>?_);refine with_tabW isExtR.tab isExtR.bits (fun HT_ HW_=>?_);replace hR0 : w1.drew.rangeAt g1 0 L:=hHeld;replace hT0 : Below w.heap.size w w1.drew:=below_drew hT0;replace hZ0 : g1 < w1.drew.heap.size:=hZ0;generalize w1.drew = wq at hR0 hT0 hZ0 hHeld ⊢;refine p_ HT_ 0 (some 7) isExtR.l0 ?_;refine tk HT_ HW_ hHeld 1 (some 8) isExtR.l1 (hr:=by intro w' hs_;have c_:=HC0.out w' hs_;go_simp;with_reducible rfl) (h:=?_)
 cases b1 with
 | false=>
   refine o_ HT_ 2 (some 9) isExtR.l2 fun K hK=>?_;refine gs Tryd.func33 #[.int .i64 x.kind,.int .i64 1,.int .i64 11] ?_;refine (code_isIn.calls x.kind 1 11 false _ E1.out).mono ?_;rintro e w5 ⟨rfl,hd5⟩;have hB5:=hd5.below;clear hd5;refine ⟨_,rfl,?_⟩;replace hR0:=rangeAt_belowN hR0 hB5 hZ0;replace hT0:=below_step hT0 hB5;replace hZ0:=Nat.lt_of_lt_of_le hZ0 hB5.size;clear hB5;refine hK.out _ _ hR0 (fun hHeld=>?_);clear hK K;refine nm (some 9) ?_;refine p_ HT_ 3 (some 10) isExtR.l3 ?_;refine f_ HT_ 4 (some 11) isExtR.l4 ?_;refine f_ HT_ 5 (some 12) isExtR.l5 ?_;refine f_ HT_ 6 (some 13) isExtR.l6 ?_;refine f_ HT_ 7 (some 14) isExtR.l7 ?_;refine p_ HT_ 8 (some 15) isExtR.l8 ?_;refine p_ HT_ 9 (some 16) isExtR.l9 ?_;refine f_ HT_ 10 (some 17) isExtR.l10 ?_;refine f_ HT_ 11 (some 18) isExtR.l11 ?_;refine f_ HT_ 12 (some 19) isExtR.l12 ?_;refine p_ HT_ 13 (some 20) isExtR.l13 ?_;refine p_ HT_ 14 (some 21) isExtR.l14 ?_;refine f_ HT_ 15 (some 22) isExtR.l15 ?_;refine f_ HT_ 16 (some 23) isExtR.l16 ?_;refine f_ HT_ 17 (some 24) isExtR.l17 ?_;refine p_ HT_ 18 (some 25) isExtR.l18 ?_;refine p_ HT_ 19 (some 26) isExtR.l19 ?_;refine f_ HT_ 20 (some 27) isExtR.l20 ?_;refine f_ HT_ 21 (some 28) isExtR.l21 ?_;refine f_ HT_ 22 (some 29) isExtR.l22 ?_;refine f_ HT_ 23 (some 30) isExtR.l23 ?_;refine p_ HT_ 24 (some 31) isExtR.l24 ?_;refine p_ HT_ 25 (some 32) isExtR.l25 ?_;refine f_ HT_ 26 (some 33) isExtR.l26 ?_;refine f_ HT_ 27 (some 34) isExtR.l27 ?_;refine f_ HT_ 28 (some 35) isExtR.l28 ?_;refine p_ HT_ 29 (some 36) isExtR.l29 ?_;refine p_ HT_ 30 (some 37) isExtR.l30 ?_;refine f_ HT_ 31 (some 38) isExtR.l31 ?_;refine f_ HT_ 32 (some 39) isExtR.l32 ?_;refine f_ HT_ 33 (some 40) isExtR.l33 ?_;refine p_ HT_ 34 (some 41) isExtR.l34 ?_;refine p_ HT_ 35 (some 42) isExtR.l35 ?_;refine f_ HT_ 36 (some 43) isExtR.l36 ?_;refine f_ HT_ 37 (some 44) isExtR.l37 ?_;refine f_ HT_ 38 (some 45) isExtR.l38 ?_;refine p_ HT_ 39 (some 46) isExtR.l39 ?_;refine p_ HT_ 40 (some 47) isExtR.l40 ?_;refine f_ HT_ 41 (some 48) isExtR.l41 ?_;refine f_ HT_ 42 (some 49) isExtR.l42 ?_;refine f_ HT_ 43 (some 50) isExtR.l43 ?_;refine f_ HT_ 44 (some 51) isExtR.l44 ?_;refine f_ HT_ 45 (some 52) isExtR.l45 ?_;refine f_ HT_ 46 (some 53) isExtR.l46 ?_;refine f_ HT_ 47 (some 54) isExtR.l47 ?_;refine f_ HT_ 48 (some 55) isExtR.l48 ?_;refine p_ HT_ 49 (some 56) isExtR.l49 ?_;refine p_ HT_ 50 (some 57) isExtR.l50 ?_;refine f_ HT_ 51 (some 58) isExtR.l51 ?_;refine f_ HT_ 52 (some 59) isExtR.l52 ?_;refine f_ HT_ 53 (some 60) isExtR.l53 ?_;refine f_ HT_ 54 (some 61) isExtR.l54 ?_;refine f_ HT_ 55 (some 62) isExtR.l55 ?_;refine f_ HT_ 56 (some 63) isExtR.l56 ?_;refine f_ HT_ 57 (some 64) isExtR.l57 ?_;refine f_ HT_ 58 (some 65) isExtR.l58 ?_;refine p_ HT_ 59 (some 66) isExtR.l59 ?_;refine p_ HT_ 60 (some 2) isExtR.l60 ?_;refine done_ (done_of HT_.out (by kernel_rfl)) ?_
   go_wp2
   go_ret
   have hk4:=HK4.out
   try rw [hk4] at e1
   try rw [k7] at e1
   try rw [k2] at e1
   exact ⟨by simp [okE, *],hT0⟩
 | true=>
   refine o_ HT_ 2 (some 9) isExtR.l2 fun K hK=>?_;refine gs Tryd.func33 #[.int .i64 x.kind,.int .i64 1,.int .i64 11] ?_;refine (code_isIn.calls x.kind 1 11 true _ E1.out).mono ?_;rintro e w5 ⟨rfl,hd5⟩;have hB5:=hd5.below;clear hd5;refine ⟨_,rfl,?_⟩;replace hR0:=rangeAt_belowN hR0 hB5 hZ0;replace hT0:=below_step hT0 hB5;replace hZ0:=Nat.lt_of_lt_of_le hZ0 hB5.size;clear hB5;refine hK.out _ _ hR0 (fun hHeld=>?_);clear hK K;refine nm (some 9) ?_;refine p_ HT_ 3 (some 10) isExtR.l3 ?_;refine tk HT_ HW_ hHeld 4 (some 11) isExtR.l4 (hr:=by intro w' hs_;refine load_runN (ty:=51) (y:= .tmp 1) (g:=g1) (L:=L) ?_ ?_ hs_ Tryd.underlying51 rfl HIE.out <;> rfl) (h:=?_);refine tk HT_ HW_ hHeld 6 (some 13) isExtR.l61 (hr:=by intro w' hs_;refine load_runN (ty:=51) (y:= .tmp 1) (g:=g1) (L:=L) ?_ ?_ hs_ Tryd.underlying51 rfl HIE.out <;> rfl) (h:=?_);refine o_ HT_ 5 (some 12) isExtR.l6 fun K hK=>?_;refine gs Tryd.func35 #[.agg L.toArray] ?_;refine (HN.out _).mono ?_;rintro e w5 ⟨rfl,hB5⟩;refine ⟨_,rfl,?_⟩;replace hR0:=rangeAt_belowN hR0 hB5 hZ0;replace hT0:=below_step hT0 hB5;replace hZ0:=Nat.lt_of_lt_of_le hZ0 hB5.size;clear hB5;refine hK.out _ _ hR0 (fun hHeld=>?_);clear hK K;refine nm (some 12) ?_
   cases same with
   | false=>
     refine o_ HT_ 7 (some 14) isExtR.l7 fun K hK=>?_;refine gs Tryd.func34 #[.agg N,.agg L.toArray] ?_;refine (HSm.out _ hT0).mono ?_;rintro e w5 ⟨rfl,hB5⟩;refine ⟨_,rfl,?_⟩;replace hR0:=rangeAt_belowN hR0 hB5 hZ0;replace hT0:=below_step hT0 hB5;replace hZ0:=Nat.lt_of_lt_of_le hZ0 hB5.size;clear hB5;refine hK.out _ _ hR0 (fun hHeld=>?_);clear hK K;refine nm (some 14) ?_;refine p_ HT_ 8 (some 15) isExtR.l8 ?_;refine p_ HT_ 9 (some 16) isExtR.l9 ?_;refine f_ HT_ 10 (some 17) isExtR.l10 ?_;refine f_ HT_ 11 (some 18) isExtR.l11 ?_;refine f_ HT_ 12 (some 19) isExtR.l12 ?_;refine p_ HT_ 13 (some 20) isExtR.l13 ?_;refine p_ HT_ 14 (some 21) isExtR.l14 ?_;refine f_ HT_ 15 (some 22) isExtR.l15 ?_;refine f_ HT_ 16 (some 23) isExtR.l16 ?_;refine f_ HT_ 17 (some 24) isExtR.l17 ?_;refine p_ HT_ 18 (some 25) isExtR.l18 ?_;refine p_ HT_ 19 (some 26) isExtR.l19 ?_;refine f_ HT_ 20 (some 27) isExtR.l20 ?_;refine f_ HT_ 21 (some 28) isExtR.l21 ?_;refine f_ HT_ 22 (some 29) isExtR.l22 ?_;refine f_ HT_ 23 (some 30) isExtR.l23 ?_;refine p_ HT_ 24 (some 31) isExtR.l24 ?_;refine p_ HT_ 25 (some 32) isExtR.l25 ?_;refine f_ HT_ 26 (some 33) isExtR.l26 ?_;refine f_ HT_ 27 (some 34) isExtR.l27 ?_;refine f_ HT_ 28 (some 35) isExtR.l28 ?_;refine p_ HT_ 29 (some 36) isExtR.l29 ?_;refine p_ HT_ 30 (some 37) isExtR.l30 ?_;refine f_ HT_ 31 (some 38) isExtR.l31 ?_;refine f_ HT_ 32 (some 39) isExtR.l32 ?_;refine f_ HT_ 33 (some 40) isExtR.l33 ?_;refine p_ HT_ 34 (some 41) isExtR.l34 ?_;refine p_ HT_ 35 (some 42) isExtR.l35 ?_;refine f_ HT_ 36 (some 43) isExtR.l36 ?_;refine f_ HT_ 37 (some 44) isExtR.l37 ?_;refine f_ HT_ 38 (some 45) isExtR.l38 ?_;refine p_ HT_ 39 (some 46) isExtR.l39 ?_;refine p_ HT_ 40 (some 47) isExtR.l40 ?_;refine f_ HT_ 41 (some 48) isExtR.l41 ?_;refine f_ HT_ 42 (some 49) isExtR.l42 ?_;refine f_ HT_ 43 (some 50) isExtR.l43 ?_;refine f_ HT_ 44 (some 51) isExtR.l44 ?_;refine f_ HT_ 45 (some 52) isExtR.l45 ?_;refine f_ HT_ 46 (some 53) isExtR.l46 ?_;refine f_ HT_ 47 (some 54) isExtR.l47 ?_;refine f_ HT_ 48 (some 55) isExtR.l48 ?_;refine p_ HT_ 49 (some 56) isExtR.l49 ?_;refine p_ HT_ 50 (some 57) isExtR.l50 ?_;refine f_ HT_ 51 (some 58) isExtR.l51 ?_;refine f_ HT_ 52 (some 59) isExtR.l52 ?_;refine f_ HT_ 53 (some 60) isExtR.l53 ?_;refine f_ HT_ 54 (some 61) isExtR.l54 ?_;refine f_ HT_ 55 (some 62) isExtR.l55 ?_;refine f_ HT_ 56 (some 63) isExtR.l56 ?_;refine f_ HT_ 57 (some 64) isExtR.l57 ?_;refine f_ HT_ 58 (some 65) isExtR.l58 ?_;refine p_ HT_ 59 (some 66) isExtR.l59 ?_;refine p_ HT_ 60 (some 2) isExtR.l60 ?_;refine done_ (done_of HT_.out (by kernel_rfl)) ?_
     go_wp2
     go_ret
     have hk4:=HK4.out
     try rw [hk4] at e1
     try rw [k7] at e1
     try rw [k2] at e1
     exact ⟨by simp [okE, *],hT0⟩
   | true=>
     refine o_ HT_ 7 (some 14) isExtR.l7 fun K hK=>?_;refine gs Tryd.func34 #[.agg N,.agg L.toArray] ?_;refine (HSm.out _ hT0).mono ?_;rintro e w5 ⟨rfl,hB5⟩;refine ⟨_,rfl,?_⟩;replace hR0:=rangeAt_belowN hR0 hB5 hZ0;replace hT0:=below_step hT0 hB5;replace hZ0:=Nat.lt_of_lt_of_le hZ0 hB5.size;clear hB5;refine hK.out _ _ hR0 (fun hHeld=>?_);clear hK K;refine nm (some 14) ?_;refine p_ HT_ 8 (some 15) isExtR.l8 ?_;refine p_ HT_ 9 (some 16) isExtR.l9 ?_;refine p_ HT_ 10 (some 17) isExtR.l10 ?_;refine tk HT_ HW_ hHeld 11 (some 18) isExtR.l11 (hr:=by intro w' hs_;have c_:=HC1.out w' hs_;go_simp;with_reducible rfl) (h:=?_)
     cases b3 with
     | false=>
       refine o_ HT_ 12 (some 19) isExtR.l12 fun K hK=>?_;refine gs Tryd.func36 #[.int .i64 x.who] ?_;refine (code_isAccount.calls x.who false _ E3.out).mono ?_;rintro e w5 ⟨rfl,hd5⟩;have hB5:=hd5.below;clear hd5;refine ⟨_,rfl,?_⟩;replace hR0:=rangeAt_belowN hR0 hB5 hZ0;replace hT0:=below_step hT0 hB5;replace hZ0:=Nat.lt_of_lt_of_le hZ0 hB5.size;clear hB5;refine hK.out _ _ hR0 (fun hHeld=>?_);clear hK K;refine nm (some 19) ?_;refine p_ HT_ 13 (some 20) isExtR.l13 ?_;refine p_ HT_ 14 (some 21) isExtR.l14 ?_;refine f_ HT_ 15 (some 22) isExtR.l15 ?_;refine f_ HT_ 16 (some 23) isExtR.l16 ?_;refine f_ HT_ 17 (some 24) isExtR.l17 ?_;refine p_ HT_ 18 (some 25) isExtR.l18 ?_;refine p_ HT_ 19 (some 26) isExtR.l19 ?_;refine f_ HT_ 20 (some 27) isExtR.l20 ?_;refine f_ HT_ 21 (some 28) isExtR.l21 ?_;refine f_ HT_ 22 (some 29) isExtR.l22 ?_;refine f_ HT_ 23 (some 30) isExtR.l23 ?_;refine p_ HT_ 24 (some 31) isExtR.l24 ?_;refine p_ HT_ 25 (some 32) isExtR.l25 ?_;refine f_ HT_ 26 (some 33) isExtR.l26 ?_;refine f_ HT_ 27 (some 34) isExtR.l27 ?_;refine f_ HT_ 28 (some 35) isExtR.l28 ?_;refine p_ HT_ 29 (some 36) isExtR.l29 ?_;refine p_ HT_ 30 (some 37) isExtR.l30 ?_;refine f_ HT_ 31 (some 38) isExtR.l31 ?_;refine f_ HT_ 32 (some 39) isExtR.l32 ?_;refine f_ HT_ 33 (some 40) isExtR.l33 ?_;refine p_ HT_ 34 (some 41) isExtR.l34 ?_;refine p_ HT_ 35 (some 42) isExtR.l35 ?_;refine f_ HT_ 36 (some 43) isExtR.l36 ?_;refine f_ HT_ 37 (some 44) isExtR.l37 ?_;refine f_ HT_ 38 (some 45) isExtR.l38 ?_;refine p_ HT_ 39 (some 46) isExtR.l39 ?_;refine p_ HT_ 40 (some 47) isExtR.l40 ?_;refine f_ HT_ 41 (some 48) isExtR.l41 ?_;refine f_ HT_ 42 (some 49) isExtR.l42 ?_;refine f_ HT_ 43 (some 50) isExtR.l43 ?_;refine f_ HT_ 44 (some 51) isExtR.l44 ?_;refine f_ HT_ 45 (some 52) isExtR.l45 ?_;refine f_ HT_ 46 (some 53) isExtR.l46 ?_;refine f_ HT_ 47 (some 54) isExtR.l47 ?_;refine f_ HT_ 48 (some 55) isExtR.l48 ?_;refine p_ HT_ 49 (some 56) isExtR.l49 ?_;refine p_ HT_ 50 (some 57) isExtR.l50 ?_;refine f_ HT_ 51 (some 58) isExtR.l51 ?_;refine f_ HT_ 52 (some 59) isExtR.l52 ?_;refine f_ HT_ 53 (some 60) isExtR.l53 ?_;refine f_ HT_ 54 (some 61) isExtR.l54 ?_;refine f_ HT_ 55 (some 62) isExtR.l55 ?_;refine f_ HT_ 56 (some 63) isExtR.l56 ?_;refine f_ HT_ 57 (some 64) isExtR.l57 ?_;refine f_ HT_ 58 (some 65) isExtR.l58 ?_;refine p_ HT_ 59 (some 66) isExtR.l59 ?_;refine p_ HT_ 60 (some 2) isExtR.l60 ?_;refine done_ (done_of HT_.out (by kernel_rfl)) ?_
       go_wp2
       go_ret
       have hk4:=HK4.out
       try rw [hk4] at e1
       try rw [k7] at e1
       try rw [k2] at e1
       exact ⟨by simp [okE, *],hT0⟩
     | true=>
       refine o_ HT_ 12 (some 19) isExtR.l12 fun K hK=>?_;refine gs Tryd.func36 #[.int .i64 x.who] ?_;refine (code_isAccount.calls x.who true _ E3.out).mono ?_;rintro e w5 ⟨rfl,hd5⟩;have hB5:=hd5.below;clear hd5;refine ⟨_,rfl,?_⟩;replace hR0:=rangeAt_belowN hR0 hB5 hZ0;replace hT0:=below_step hT0 hB5;replace hZ0:=Nat.lt_of_lt_of_le hZ0 hB5.size;clear hB5;refine hK.out _ _ hR0 (fun hHeld=>?_);clear hK K;refine nm (some 19) ?_;refine p_ HT_ 13 (some 20) isExtR.l13 ?_;refine p_ HT_ 14 (some 21) isExtR.l14 ?_;refine p_ HT_ 15 (some 22) isExtR.l15 ?_;refine tk HT_ HW_ hHeld 16 (some 23) isExtR.l16 (hr:=by intro w' hs_;have c_:=HC2.out w' hs_;go_simp;with_reducible rfl) (h:=?_)
       cases b4 with
       | false=>
         refine o_ HT_ 17 (some 24) isExtR.l17 fun K hK=>?_;refine gs Tryd.func36 #[.int .i64 x.dest] ?_;refine (code_isAccount.calls x.dest false _ E4.out).mono ?_;rintro e w5 ⟨rfl,hd5⟩;have hB5:=hd5.below;clear hd5;refine ⟨_,rfl,?_⟩;replace hR0:=rangeAt_belowN hR0 hB5 hZ0;replace hT0:=below_step hT0 hB5;replace hZ0:=Nat.lt_of_lt_of_le hZ0 hB5.size;clear hB5;refine hK.out _ _ hR0 (fun hHeld=>?_);clear hK K;refine nm (some 24) ?_;refine p_ HT_ 18 (some 25) isExtR.l18 ?_;refine p_ HT_ 19 (some 26) isExtR.l19 ?_;refine f_ HT_ 20 (some 27) isExtR.l20 ?_;refine f_ HT_ 21 (some 28) isExtR.l21 ?_;refine f_ HT_ 22 (some 29) isExtR.l22 ?_;refine f_ HT_ 23 (some 30) isExtR.l23 ?_;refine p_ HT_ 24 (some 31) isExtR.l24 ?_;refine p_ HT_ 25 (some 32) isExtR.l25 ?_;refine f_ HT_ 26 (some 33) isExtR.l26 ?_;refine f_ HT_ 27 (some 34) isExtR.l27 ?_;refine f_ HT_ 28 (some 35) isExtR.l28 ?_;refine p_ HT_ 29 (some 36) isExtR.l29 ?_;refine p_ HT_ 30 (some 37) isExtR.l30 ?_;refine f_ HT_ 31 (some 38) isExtR.l31 ?_;refine f_ HT_ 32 (some 39) isExtR.l32 ?_;refine f_ HT_ 33 (some 40) isExtR.l33 ?_;refine p_ HT_ 34 (some 41) isExtR.l34 ?_;refine p_ HT_ 35 (some 42) isExtR.l35 ?_;refine f_ HT_ 36 (some 43) isExtR.l36 ?_;refine f_ HT_ 37 (some 44) isExtR.l37 ?_;refine f_ HT_ 38 (some 45) isExtR.l38 ?_;refine p_ HT_ 39 (some 46) isExtR.l39 ?_;refine p_ HT_ 40 (some 47) isExtR.l40 ?_;refine f_ HT_ 41 (some 48) isExtR.l41 ?_;refine f_ HT_ 42 (some 49) isExtR.l42 ?_;refine f_ HT_ 43 (some 50) isExtR.l43 ?_;refine f_ HT_ 44 (some 51) isExtR.l44 ?_;refine f_ HT_ 45 (some 52) isExtR.l45 ?_;refine f_ HT_ 46 (some 53) isExtR.l46 ?_;refine f_ HT_ 47 (some 54) isExtR.l47 ?_;refine f_ HT_ 48 (some 55) isExtR.l48 ?_;refine p_ HT_ 49 (some 56) isExtR.l49 ?_;refine p_ HT_ 50 (some 57) isExtR.l50 ?_;refine f_ HT_ 51 (some 58) isExtR.l51 ?_;refine f_ HT_ 52 (some 59) isExtR.l52 ?_;refine f_ HT_ 53 (some 60) isExtR.l53 ?_;refine f_ HT_ 54 (some 61) isExtR.l54 ?_;refine f_ HT_ 55 (some 62) isExtR.l55 ?_;refine f_ HT_ 56 (some 63) isExtR.l56 ?_;refine f_ HT_ 57 (some 64) isExtR.l57 ?_;refine f_ HT_ 58 (some 65) isExtR.l58 ?_;refine p_ HT_ 59 (some 66) isExtR.l59 ?_;refine p_ HT_ 60 (some 2) isExtR.l60 ?_;refine done_ (done_of HT_.out (by kernel_rfl)) ?_
         go_wp2
         go_ret
         have hk4:=HK4.out
         try rw [hk4] at e1
         try rw [k7] at e1
         try rw [k2] at e1
         exact ⟨by simp [okE, *],hT0⟩
       | true=>
         refine o_ HT_ 17 (some 24) isExtR.l17 fun K hK=>?_;refine gs Tryd.func36 #[.int .i64 x.dest] ?_;refine (code_isAccount.calls x.dest true _ E4.out).mono ?_;rintro e w5 ⟨rfl,hd5⟩;have hB5:=hd5.below;clear hd5;refine ⟨_,rfl,?_⟩;replace hR0:=rangeAt_belowN hR0 hB5 hZ0;replace hT0:=below_step hT0 hB5;replace hZ0:=Nat.lt_of_lt_of_le hZ0 hB5.size;clear hB5;refine hK.out _ _ hR0 (fun hHeld=>?_);clear hK K;refine nm (some 24) ?_;refine p_ HT_ 18 (some 25) isExtR.l18 ?_;refine p_ HT_ 19 (some 26) isExtR.l19 ?_;refine p_ HT_ 20 (some 27) isExtR.l20 ?_;refine tk HT_ HW_ hHeld 21 (some 28) isExtR.l21 (hr:=by intro w' hs_;have c_:=HC3.out w' hs_;go_simp;with_reducible rfl) (h:=?_);refine p_ HT_ 22 (some 29) isExtR.l22 ?_
         cases b5 with
         | false=>
           refine o_ HT_ 23 (some 30) isExtR.l23 fun K hK=>?_;refine gs Tryd.func33 #[.int .i64 x.amt,.int .i64 0,.int .i64 1000] ?_;refine (code_isIn.calls x.amt 0 1000 false _ E5.out).mono ?_;rintro e w5 ⟨rfl,hd5⟩;have hB5:=hd5.below;clear hd5;refine ⟨_,rfl,?_⟩;replace hR0:=rangeAt_belowN hR0 hB5 hZ0;replace hT0:=below_step hT0 hB5;replace hZ0:=Nat.lt_of_lt_of_le hZ0 hB5.size;clear hB5;refine hK.out _ _ hR0 (fun hHeld=>?_);clear hK K;refine nm (some 30) ?_;refine p_ HT_ 24 (some 31) isExtR.l24 ?_;refine p_ HT_ 25 (some 32) isExtR.l25 ?_;refine f_ HT_ 26 (some 33) isExtR.l26 ?_;refine f_ HT_ 27 (some 34) isExtR.l27 ?_;refine f_ HT_ 28 (some 35) isExtR.l28 ?_;refine p_ HT_ 29 (some 36) isExtR.l29 ?_;refine p_ HT_ 30 (some 37) isExtR.l30 ?_;refine f_ HT_ 31 (some 38) isExtR.l31 ?_;refine f_ HT_ 32 (some 39) isExtR.l32 ?_;refine f_ HT_ 33 (some 40) isExtR.l33 ?_;refine p_ HT_ 34 (some 41) isExtR.l34 ?_;refine p_ HT_ 35 (some 42) isExtR.l35 ?_;refine f_ HT_ 36 (some 43) isExtR.l36 ?_;refine f_ HT_ 37 (some 44) isExtR.l37 ?_;refine f_ HT_ 38 (some 45) isExtR.l38 ?_;refine p_ HT_ 39 (some 46) isExtR.l39 ?_;refine p_ HT_ 40 (some 47) isExtR.l40 ?_;refine f_ HT_ 41 (some 48) isExtR.l41 ?_;refine f_ HT_ 42 (some 49) isExtR.l42 ?_;refine f_ HT_ 43 (some 50) isExtR.l43 ?_;refine f_ HT_ 44 (some 51) isExtR.l44 ?_;refine f_ HT_ 45 (some 52) isExtR.l45 ?_;refine f_ HT_ 46 (some 53) isExtR.l46 ?_;refine f_ HT_ 47 (some 54) isExtR.l47 ?_;refine f_ HT_ 48 (some 55) isExtR.l48 ?_;refine p_ HT_ 49 (some 56) isExtR.l49 ?_;refine p_ HT_ 50 (some 57) isExtR.l50 ?_;refine f_ HT_ 51 (some 58) isExtR.l51 ?_;refine f_ HT_ 52 (some 59) isExtR.l52 ?_;refine f_ HT_ 53 (some 60) isExtR.l53 ?_;refine f_ HT_ 54 (some 61) isExtR.l54 ?_;refine f_ HT_ 55 (some 62) isExtR.l55 ?_;refine f_ HT_ 56 (some 63) isExtR.l56 ?_;refine f_ HT_ 57 (some 64) isExtR.l57 ?_;refine f_ HT_ 58 (some 65) isExtR.l58 ?_;refine p_ HT_ 59 (some 66) isExtR.l59 ?_;refine p_ HT_ 60 (some 2) isExtR.l60 ?_;refine done_ (done_of HT_.out (by kernel_rfl)) ?_
           go_wp2
           go_ret
           have hk4:=HK4.out
           try rw [hk4] at e1
           try rw [k7] at e1
           try rw [k2] at e1
           exact ⟨by simp [okE, *],hT0⟩
         | true=>
           refine o_ HT_ 23 (some 30) isExtR.l23 fun K hK=>?_;refine gs Tryd.func33 #[.int .i64 x.amt,.int .i64 0,.int .i64 1000] ?_;refine (code_isIn.calls x.amt 0 1000 true _ E5.out).mono ?_;rintro e w5 ⟨rfl,hd5⟩;have hB5:=hd5.below;clear hd5;refine ⟨_,rfl,?_⟩;replace hR0:=rangeAt_belowN hR0 hB5 hZ0;replace hT0:=below_step hT0 hB5;replace hZ0:=Nat.lt_of_lt_of_le hZ0 hB5.size;clear hB5;refine hK.out _ _ hR0 (fun hHeld=>?_);clear hK K;refine nm (some 30) ?_;refine p_ HT_ 24 (some 31) isExtR.l24 ?_;refine p_ HT_ 25 (some 32) isExtR.l25 ?_;refine p_ HT_ 26 (some 33) isExtR.l26 ?_;refine tk HT_ HW_ hHeld 27 (some 34) isExtR.l27 (hr:=by intro w' hs_;have c_:=HC4.out w' hs_;go_simp;with_reducible rfl) (h:=?_)
           cases b6 with
           | false=>
             refine o_ HT_ 28 (some 35) isExtR.l28 fun K hK=>?_;refine gs Tryd.func33 #[.int .i64 x.rfd,.int .i64 0,.int .i64 11] ?_;refine (code_isIn.calls x.rfd 0 11 false _ E6.out).mono ?_;rintro e w5 ⟨rfl,hd5⟩;have hB5:=hd5.below;clear hd5;refine ⟨_,rfl,?_⟩;replace hR0:=rangeAt_belowN hR0 hB5 hZ0;replace hT0:=below_step hT0 hB5;replace hZ0:=Nat.lt_of_lt_of_le hZ0 hB5.size;clear hB5;refine hK.out _ _ hR0 (fun hHeld=>?_);clear hK K;refine nm (some 35) ?_;refine p_ HT_ 29 (some 36) isExtR.l29 ?_;refine p_ HT_ 30 (some 37) isExtR.l30 ?_;refine f_ HT_ 31 (some 38) isExtR.l31 ?_;refine f_ HT_ 32 (some 39) isExtR.l32 ?_;refine f_ HT_ 33 (some 40) isExtR.l33 ?_;refine p_ HT_ 34 (some 41) isExtR.l34 ?_;refine p_ HT_ 35 (some 42) isExtR.l35 ?_;refine f_ HT_ 36 (some 43) isExtR.l36 ?_;refine f_ HT_ 37 (some 44) isExtR.l37 ?_;refine f_ HT_ 38 (some 45) isExtR.l38 ?_;refine p_ HT_ 39 (some 46) isExtR.l39 ?_;refine p_ HT_ 40 (some 47) isExtR.l40 ?_;refine f_ HT_ 41 (some 48) isExtR.l41 ?_;refine f_ HT_ 42 (some 49) isExtR.l42 ?_;refine f_ HT_ 43 (some 50) isExtR.l43 ?_;refine f_ HT_ 44 (some 51) isExtR.l44 ?_;refine f_ HT_ 45 (some 52) isExtR.l45 ?_;refine f_ HT_ 46 (some 53) isExtR.l46 ?_;refine f_ HT_ 47 (some 54) isExtR.l47 ?_;refine f_ HT_ 48 (some 55) isExtR.l48 ?_;refine p_ HT_ 49 (some 56) isExtR.l49 ?_;refine p_ HT_ 50 (some 57) isExtR.l50 ?_;refine f_ HT_ 51 (some 58) isExtR.l51 ?_;refine f_ HT_ 52 (some 59) isExtR.l52 ?_;refine f_ HT_ 53 (some 60) isExtR.l53 ?_;refine f_ HT_ 54 (some 61) isExtR.l54 ?_;refine f_ HT_ 55 (some 62) isExtR.l55 ?_;refine f_ HT_ 56 (some 63) isExtR.l56 ?_;refine f_ HT_ 57 (some 64) isExtR.l57 ?_;refine f_ HT_ 58 (some 65) isExtR.l58 ?_;refine p_ HT_ 59 (some 66) isExtR.l59 ?_;refine p_ HT_ 60 (some 2) isExtR.l60 ?_;refine done_ (done_of HT_.out (by kernel_rfl)) ?_
             go_wp2
             go_ret
             have hk4:=HK4.out
             try rw [hk4] at e1
             try rw [k7] at e1
             try rw [k2] at e1
             exact ⟨by simp [okE, *],hT0⟩
           | true=>
             refine o_ HT_ 28 (some 35) isExtR.l28 fun K hK=>?_;refine gs Tryd.func33 #[.int .i64 x.rfd,.int .i64 0,.int .i64 11] ?_;refine (code_isIn.calls x.rfd 0 11 true _ E6.out).mono ?_;rintro e w5 ⟨rfl,hd5⟩;have hB5:=hd5.below;clear hd5;refine ⟨_,rfl,?_⟩;replace hR0:=rangeAt_belowN hR0 hB5 hZ0;replace hT0:=below_step hT0 hB5;replace hZ0:=Nat.lt_of_lt_of_le hZ0 hB5.size;clear hB5;refine hK.out _ _ hR0 (fun hHeld=>?_);clear hK K;refine nm (some 35) ?_;refine p_ HT_ 29 (some 36) isExtR.l29 ?_;refine p_ HT_ 30 (some 37) isExtR.l30 ?_;refine p_ HT_ 31 (some 38) isExtR.l31 ?_;refine tk HT_ HW_ hHeld 32 (some 39) isExtR.l32 (hr:=by intro w' hs_;have c_:=HC5.out w' hs_;go_simp;with_reducible rfl) (h:=?_)
             cases b7 with
             | false=>
               refine o_ HT_ 33 (some 40) isExtR.l33 fun K hK=>?_;refine gs Tryd.func33 #[.int .i64 x.track,.int .i64 0,.int .i64 3] ?_;refine (code_isIn.calls x.track 0 3 false _ E7.out).mono ?_;rintro e w5 ⟨rfl,hd5⟩;have hB5:=hd5.below;clear hd5;refine ⟨_,rfl,?_⟩;replace hR0:=rangeAt_belowN hR0 hB5 hZ0;replace hT0:=below_step hT0 hB5;replace hZ0:=Nat.lt_of_lt_of_le hZ0 hB5.size;clear hB5;refine hK.out _ _ hR0 (fun hHeld=>?_);clear hK K;refine nm (some 40) ?_;refine p_ HT_ 34 (some 41) isExtR.l34 ?_;refine p_ HT_ 35 (some 42) isExtR.l35 ?_;refine f_ HT_ 36 (some 43) isExtR.l36 ?_;refine f_ HT_ 37 (some 44) isExtR.l37 ?_;refine f_ HT_ 38 (some 45) isExtR.l38 ?_;refine p_ HT_ 39 (some 46) isExtR.l39 ?_;refine p_ HT_ 40 (some 47) isExtR.l40 ?_;refine f_ HT_ 41 (some 48) isExtR.l41 ?_;refine f_ HT_ 42 (some 49) isExtR.l42 ?_;refine f_ HT_ 43 (some 50) isExtR.l43 ?_;refine f_ HT_ 44 (some 51) isExtR.l44 ?_;refine f_ HT_ 45 (some 52) isExtR.l45 ?_;refine f_ HT_ 46 (some 53) isExtR.l46 ?_;refine f_ HT_ 47 (some 54) isExtR.l47 ?_;refine f_ HT_ 48 (some 55) isExtR.l48 ?_;refine p_ HT_ 49 (some 56) isExtR.l49 ?_;refine p_ HT_ 50 (some 57) isExtR.l50 ?_;refine f_ HT_ 51 (some 58) isExtR.l51 ?_;refine f_ HT_ 52 (some 59) isExtR.l52 ?_;refine f_ HT_ 53 (some 60) isExtR.l53 ?_;refine f_ HT_ 54 (some 61) isExtR.l54 ?_;refine f_ HT_ 55 (some 62) isExtR.l55 ?_;refine f_ HT_ 56 (some 63) isExtR.l56 ?_;refine f_ HT_ 57 (some 64) isExtR.l57 ?_;refine f_ HT_ 58 (some 65) isExtR.l58 ?_;refine p_ HT_ 59 (some 66) isExtR.l59 ?_;refine p_ HT_ 60 (some 2) isExtR.l60 ?_;refine done_ (done_of HT_.out (by kernel_rfl)) ?_
               go_wp2
               go_ret
               have hk4:=HK4.out
               try rw [hk4] at e1
               try rw [k7] at e1
               try rw [k2] at e1
               exact ⟨by simp [okE, *],hT0⟩
             | true=>
               refine o_ HT_ 33 (some 40) isExtR.l33 fun K hK=>?_;refine gs Tryd.func33 #[.int .i64 x.track,.int .i64 0,.int .i64 3] ?_;refine (code_isIn.calls x.track 0 3 true _ E7.out).mono ?_;rintro e w5 ⟨rfl,hd5⟩;have hB5:=hd5.below;clear hd5;refine ⟨_,rfl,?_⟩;replace hR0:=rangeAt_belowN hR0 hB5 hZ0;replace hT0:=below_step hT0 hB5;replace hZ0:=Nat.lt_of_lt_of_le hZ0 hB5.size;clear hB5;refine hK.out _ _ hR0 (fun hHeld=>?_);clear hK K;refine nm (some 40) ?_;refine p_ HT_ 34 (some 41) isExtR.l34 ?_;refine p_ HT_ 35 (some 42) isExtR.l35 ?_;refine p_ HT_ 36 (some 43) isExtR.l36 ?_;refine tk HT_ HW_ hHeld 37 (some 44) isExtR.l37 (hr:=by intro w' hs_;have c_:=HC6.out w' hs_;go_simp;with_reducible rfl) (h:=?_)
               cases b8 with
               | false=>
                 refine o_ HT_ 38 (some 45) isExtR.l38 fun K hK=>?_;refine gs Tryd.func33 #[.int .i64 x.level,.int .i64 0,.int .i64 6] ?_;refine (code_isIn.calls x.level 0 6 false _ E8.out).mono ?_;rintro e w5 ⟨rfl,hd5⟩;have hB5:=hd5.below;clear hd5;refine ⟨_,rfl,?_⟩;replace hR0:=rangeAt_belowN hR0 hB5 hZ0;replace hT0:=below_step hT0 hB5;replace hZ0:=Nat.lt_of_lt_of_le hZ0 hB5.size;clear hB5;refine hK.out _ _ hR0 (fun hHeld=>?_);clear hK K;refine nm (some 45) ?_;refine p_ HT_ 39 (some 46) isExtR.l39 ?_;refine p_ HT_ 40 (some 47) isExtR.l40 ?_;refine f_ HT_ 41 (some 48) isExtR.l41 ?_;refine f_ HT_ 42 (some 49) isExtR.l42 ?_;refine f_ HT_ 43 (some 50) isExtR.l43 ?_;refine f_ HT_ 44 (some 51) isExtR.l44 ?_;refine f_ HT_ 45 (some 52) isExtR.l45 ?_;refine f_ HT_ 46 (some 53) isExtR.l46 ?_;refine f_ HT_ 47 (some 54) isExtR.l47 ?_;refine f_ HT_ 48 (some 55) isExtR.l48 ?_;refine p_ HT_ 49 (some 56) isExtR.l49 ?_;refine p_ HT_ 50 (some 57) isExtR.l50 ?_;refine f_ HT_ 51 (some 58) isExtR.l51 ?_;refine f_ HT_ 52 (some 59) isExtR.l52 ?_;refine f_ HT_ 53 (some 60) isExtR.l53 ?_;refine f_ HT_ 54 (some 61) isExtR.l54 ?_;refine f_ HT_ 55 (some 62) isExtR.l55 ?_;refine f_ HT_ 56 (some 63) isExtR.l56 ?_;refine f_ HT_ 57 (some 64) isExtR.l57 ?_;refine f_ HT_ 58 (some 65) isExtR.l58 ?_;refine p_ HT_ 59 (some 66) isExtR.l59 ?_;refine p_ HT_ 60 (some 2) isExtR.l60 ?_;refine done_ (done_of HT_.out (by kernel_rfl)) ?_
                 go_wp2
                 go_ret
                 have hk4:=HK4.out
                 try rw [hk4] at e1
                 try rw [k7] at e1
                 try rw [k2] at e1
                 exact ⟨by simp [okE, *],hT0⟩
               | true=>
                 refine o_ HT_ 38 (some 45) isExtR.l38 fun K hK=>?_;refine gs Tryd.func33 #[.int .i64 x.level,.int .i64 0,.int .i64 6] ?_;refine (code_isIn.calls x.level 0 6 true _ E8.out).mono ?_;rintro e w5 ⟨rfl,hd5⟩;have hB5:=hd5.below;clear hd5;refine ⟨_,rfl,?_⟩;replace hR0:=rangeAt_belowN hR0 hB5 hZ0;replace hT0:=below_step hT0 hB5;replace hZ0:=Nat.lt_of_lt_of_le hZ0 hB5.size;clear hB5;refine hK.out _ _ hR0 (fun hHeld=>?_);clear hK K;refine nm (some 45) ?_
                 have k7 : ¬ x.kind = 7:=by have:=HK4.out;omega
                 have k2 : ¬ x.kind = 2:=by have:=HK4.out;omega
                 have k7a : decide (x.kind = 7) = false:=decide_eq_false k7;have k7b : (x.kind == 7) = false:=beq_eq_false_iff_ne.2 k7;have k7c : (x.kind != 7) = true:=bne_iff_ne.2 k7;have k2a : decide (x.kind = 2) = false:=decide_eq_false k2;have k2b : (x.kind == 2) = false:=beq_eq_false_iff_ne.2 k2;have k2c : (x.kind != 2) = true:=bne_iff_ne.2 k2;refine p_ HT_ 39 (some 46) isExtR.l39 ?_;refine p_ HT_ 40 (some 47) isExtR.l40 ?_;refine p_ HT_ 41 (some 48) isExtR.l41 ?_;refine tk HT_ HW_ hHeld 42 (some 49) isExtR.l42 (hr:=by intro w' hs_;have c_:=HC0.out w' hs_;go_simp;with_reducible rfl) (h:=?_);refine p_ HT_ 43 (some 50) isExtR.l43 ?_;refine p_ HT_ 44 (some 51) isExtR.l44 ?_;refine f_ HT_ 45 (some 52) isExtR.l45 ?_;refine f_ HT_ 46 (some 53) isExtR.l46 ?_;refine f_ HT_ 47 (some 54) isExtR.l47 ?_;refine p_ HT_ 48 (some 55) isExtR.l48 ?_;refine p_ HT_ 49 (some 56) isExtR.l49 ?_;refine p_ HT_ 50 (some 57) isExtR.l50 ?_;refine p_ HT_ 51 (some 58) isExtR.l51 ?_;refine tk HT_ HW_ hHeld 52 (some 59) isExtR.l52 (hr:=by intro w' hs_;have c_:=HC0.out w' hs_;go_simp;with_reducible rfl) (h:=?_);refine p_ HT_ 53 (some 60) isExtR.l53 ?_;refine p_ HT_ 54 (some 61) isExtR.l54 ?_;refine f_ HT_ 55 (some 62) isExtR.l55 ?_;refine f_ HT_ 56 (some 63) isExtR.l56 ?_;refine f_ HT_ 57 (some 64) isExtR.l57 ?_;refine p_ HT_ 58 (some 65) isExtR.l58 ?_;refine p_ HT_ 59 (some 66) isExtR.l59 ?_;refine p_ HT_ 60 (some 2) isExtR.l60 ?_;refine done_ (done_of HT_.out (by kernel_rfl)) ?_
                 go_wp2
                 go_ret
                 have hk4:=HK4.out
                 try rw [hk4] at e1
                 try rw [k7] at e1
                 try rw [k2] at e1
                 exact ⟨by simp [okE, *],hT0⟩
end Go.Proofs.YtilckocpgififaaDoor.G
