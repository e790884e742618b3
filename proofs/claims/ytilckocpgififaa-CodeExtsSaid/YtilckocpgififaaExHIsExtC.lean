/- code.named's contract, kind by kind (laid by mknamed.py). -/
import Derived.Test.YtilckocpgififaaExHStep
import Derived.Test.YtilckocpgififaaExHIsExt
import Derived.Deep.RegionHeld3
import Derived.Test.YtilckocpgififaaExHIsExtB
namespace Go.Proofs.Ytilckocpgififaa.G
open Go.Extern.Stop (cell)
open Go.RowKit Go.Proofs.YtilckocpgififaaW.PrintWords Go.Proofs.YtilckocpgififaaW.PrintLast Go.Proofs.YtilckocpgififaaW.PrintMore
set_option linter.unusedVariables false
set_option linter.unusedSimpArgs false
set_option maxRecDepth 100000 in
set_option maxHeartbeats 16000000 in
theorem named_1 (x : Ext) (A : Option Addr) (c : Nat) (hk : x.kind = 1) (hx : x.sum.length = 32) (w : World) :
 Calls Try.prog 33 #[.agg (x.cells A c).toArray] w fun e w'=>e = .returned (.agg ({ ext0 1 x.who with dest:=x.dest,amt:=x.amt }.cells none 0).toArray) ∧ Below w.heap.size w w':=by
 obtain ⟨X,hX⟩ : ∃ X,X = (x.cells A c).toArray:=⟨_,rfl⟩;obtain ⟨Z,hZ⟩ : ∃ Z,Z = (ext0 0 0).cells none 0:=⟨_,rfl⟩;obtain ⟨Y,hY⟩ : ∃ Y,Y = (ext0 1 x.who).cells none 0:=⟨_,rfl⟩
 have hZl : Z.length = 49:=by rw [hZ];rfl
 have hYl : Y.length = 49:=by rw [hY];rfl
 have hYo : ∀ v ∈ Y,v.oneCell' = true:=by rw [hY];exact Ext.cells_one _ _ _
 have hal : ∀ w,(zeroValue 33).run Try.prog w = .ok (.agg Z.toArray) w:=fun w=>by rw [hZ];exact zero_ext w
 have hbr : ∀ w,(Instr.build 33 #[(0,.int .i64 1),(1,.int .i64 x.who)]).run Try.prog w = .ok (.agg Y.toArray) w:=fun w=>run_build w _ _ _ (by rw [hY];exact built_ext 1 x.who);rw [← hX];have HX:=am hX;have HY:=am hY;have Hx:=am hx;have HZl:=am hZl;have HYl:=am hYl;have HYo:=am hYo;have HK:=am hk;clear hX hY hx hZ hZl hYl hYo hk;go_enter Try.func33,Try.ntmps33
 go_upto_region 1 with (first
  | ((with_reducible refine gate_dst (N:=1) rfl ?_);refine box_event ?hg (N:=1) ?hd (cs:=X) (t:=33) ?hr ?_;(case hd=>rfl);(case hg=>rfl);(case hr=>first | (go_simp;done) | (go_simp;rfl));intro g1 hg1 w1 hbox1 hb1;have BX1:=am (rangeAt_box (HX.out ▸ hbox1));have HXlt:=am (blk_lt hbox1);have HB1:=am hb1;clear hg1 hbox1 hb1)
  | ((with_reducible refine gate_dst (N:=2) rfl ?_);refine box_event ?hg (N:=2) ?hd (cs:=Z.toArray) (t:=33) ?hr ?_;(case hd=>rfl);(case hg=>rfl);(case hr=>first | (simp [execOp,Instr.alloc,hal,newVar,newRow,go_sem];done) | (simp [execOp,Instr.alloc,hal,newVar,newRow,go_sem];rfl));intro g2 hg2 w2 hbox2 hb2;have G2:=am hg2;have BZ2:=am (there_box hbox2);have HZlt:=am (blk_lt hbox2);have HB2:=am hb2;clear hg2 hbox2 hb2))
 obtain ⟨p0,p1,p2,p3,p4,p5,p6⟩:=x.at_head A c (rangeAt_below BX1.out HB2.out HXlt.out);rw [HK.out] at p0
 go_upto_region 2 with (first
  | ((with_reducible refine gate_dst (N:=8) rfl ?_);refine Kd.event_run (v:= .agg Y.toArray) (w1:=w2) rfl (by first | (simp [execOp,hbr,go_sem];done) | (simp [execOp,hbr,go_sem];rw [HY.out];rfl)) ?_)
  | ((with_reducible refine gate_dst (N:=3) rfl ?_);refine box_event ?hg (N:=3) ?hd (cs:=Z.toArray) (t:=33) ?hr ?_;(case hd=>rfl);(case hg=>rfl);(case hr=>first | (simp [execOp,Instr.alloc,hal,newVar,newRow,go_sem];done) | (simp [execOp,Instr.alloc,hal,newVar,newRow,go_sem];rfl));intro g3 hg3 w3 hbox3 hb3;have G3:=am hg3;have BZ3:=am (there_box hbox3);have HYlt:=am (blk_lt hbox3);have HB3:=am hb3;clear hg3 hbox3 hb3)
  | ((with_reducible refine gate_store (t:=33) (p:=3) rfl ?_);refine wpList_store_mid rfl 33 _ _ rfl g3 0 Y.toArray rfl rfl (by rw [List.size_toArray,HYl.out,← HZl.out];exact BZ3.out) (by rw [List.size_toArray,HYl.out];exact info_ext') (all_oneCell_toArray HYo.out) ?_))
 have ne13 : g1 ≠ g3:=by have:=G3.out;have:=HB2.out.size;have:=HXlt.out;omega
 have ne23 : g2 ≠ g3:=by have:=G3.out;have:=HZlt.out;omega
 have BX3:=rangeAt_below (rangeAt_below BX1.out HB2.out HXlt.out) HB3.out (by have:=HB2.out.size;have:=HXlt.out;omega);have BX4:=am (World.rangeAt_setCells_apart BX3 g3 0 Y (.inl ne13));have BY4:=am (World.rangeAt_setCells_same w3 g3 0 Y (by rw [HYl.out,← HZl.out];exact BZ3.out));have TY4:=am (World.there_setCells BZ3.out g3 0 Y);have TZ3 : w3.there g2 0 Z.length:=fun j hj=>⟨by rw [HB3.out.cell (p:=⟨g2,0 + j,none⟩) HZlt.out];exact (BZ2.out j hj).1,by rw [HB3.out.frozen (p:=⟨g2,0 + j,none⟩) HZlt.out];exact (BZ2.out j hj).2⟩;have TZ4:=am (World.there_setCells TZ3 g3 0 Y);have HB3a:=below_step (below_step HB1.out HB2.out) HB3.out;have HB4:=am (below_setCells g3 (by have:=G3.out;have:=(below_step HB1.out HB2.out).size;omega) Y 0 w3 HB3a)
 have s1 : w.heap.size ≤ g2:=by have:=G2.out;have:=HB1.out.size;omega
 have s2 : w.heap.size ≤ g3:=by have:=G3.out;have:=(below_step HB1.out HB2.out).size;omega
 clear BX3 TZ3 HB3a p0 p1 p2 p3 p4 p5 p6;generalize w3.setCells g3 0 Y = w4 at BX4 BY4 TY4 TZ4 HB4 ⊢;obtain ⟨p0,p1,p2,p3,p4,p5,p6⟩:=x.at_head A c BX4.out;rw [HK.out] at p0
 have c2 : w4.cell? ⟨g3,2,none⟩ = some (.int .i64 0):=by have:=BY4.out 2 (.int .i64 0) (by rw [HY.out];rfl);rw [Nat.zero_add] at this;exact this
 have f2 : w4.frozen? ⟨g3,2,none⟩ = false:=by have:=(TY4.out 2 (by rw [HZl.out];decide)).2;rw [Nat.zero_add] at this;exact this
 have c3 : w4.cell? ⟨g3,3,none⟩ = some (.int .i64 0):=by have:=BY4.out 3 (.int .i64 0) (by rw [HY.out];rfl);rw [Nat.zero_add] at this;exact this
 have f3 : w4.frozen? ⟨g3,3,none⟩ = false:=by have:=(TY4.out 3 (by rw [HZl.out];decide)).2;rw [Nat.zero_add] at this;exact this
 go_upto_region 4 with (fail)
 have ne31 : g3 ≠ g1:=fun e=>ne13 e.symm
 go_region_held3 (fun w'=>w'.cell? ⟨g1,2,none⟩ = some (.int .i64 x.dest) ∧ w'.cell? ⟨g1,3,none⟩ = some (.int .i64 x.amt)) (go_keep) (fail)
 go_upto_region 22 with (fail)
 all_goals (
  have TYs:=TY4.out;rw [HZl.out,← HYl.out] at TYs;have BY0_:=set_range BY4.out (by (try simp only [List.length_set]);exact TYs) 2 (by (try simp only [List.length_set]);rw [HYl.out];decide) (.int .i64 x.dest);have TY0_:=there_setCell TYs g3 2 (.int .i64 x.dest);have TZ0_:=there_setCell TZ4.out g3 2 (.int .i64 x.dest);have HB0_:=HB4.out.setCell (p:=⟨g3,2,none⟩) s2 (.int .i64 x.dest);have BY1_:=set_range BY0_ (by (try simp only [List.length_set]);exact TY0_) 3 (by (try simp only [List.length_set]);rw [HYl.out];decide) (.int .i64 x.amt);have TY1_:=there_setCell TY0_ g3 3 (.int .i64 x.amt);have TZ1_:=there_setCell TZ0_ g3 3 (.int .i64 x.amt);have HB1_:=HB0_.setCell (p:=⟨g3,3,none⟩) s2 (.int .i64 x.amt);have BYd:=(World.rangeAt_drew _ g3 0 _).2 BY1_;have TZd:=(World.there_drew _ g2 0 Z.length).2 TZ1_;have HBd:=below_drew HB1_;obtain ⟨L,hL⟩ : ∃ L,L = ((Y).set 2 (.int .i64 x.dest)).set 3 (.int .i64 x.amt):=⟨_,rfl⟩;rw [← hL] at BYd;have HLl:=am (by rw [hL];simp only [List.length_set];exact HYl.out : L.length = 49)
  have HLo:=am (by
   rw [hL];intro v hv
   rcases List.mem_or_eq_of_mem_set hv with hv | rfl
   rotate_left
   ·rfl
   rcases List.mem_or_eq_of_mem_set hv with hv | rfl
   rotate_left
   ·rfl
   exact HYo.out v hv : ∀ v ∈ L,v.oneCell' = true)
  have HL:=am hL;have BY5:=am BYd;have TZ5:=am TZd;have HB5:=am HBd;generalize (((w4).setCell ⟨g3,2,none⟩ (.int .i64 x.dest)).setCell ⟨g3,3,none⟩ (.int .i64 x.amt)).drew = w5 at BY5 TZ5 HB5 ⊢
  go_wp2_with (first
   | ((with_reducible refine gate_dst (N:=75) rfl ?_);refine wpList_load_mid rfl 33 _ rfl g3 0 rfl L _ BY5.out Try.underlying33 rfl (by rw [HLl.out];exact info_ext') ?_)
   | ((with_reducible refine gate_store (t:=33) (p:=2) rfl ?_);refine wpList_store_mid rfl 33 _ _ rfl g2 0 L.toArray rfl rfl (by rw [List.size_toArray,HLl.out,← HZl.out];exact TZ5.out) (by rw [List.size_toArray,HLl.out];exact info_ext') (all_oneCell_toArray HLo.out) ?_))
  have BR:=World.rangeAt_setCells_same w5 g2 0 L (by rw [HLl.out,← HZl.out];exact TZ5.out);have hres:=run_loadVar_mid (P:=Try.prog) (w5.setCells g2 0 L) g2 0 33 L _ BR Try.underlying33 rfl (by rw [HLl.out];exact info_ext');refine bodyPost_ret (v:= .agg L.toArray) (results_cell rfl _ rfl hres) rfl ?_
  exact ⟨by rw [HL.out,HY.out];rfl,below_setCells g2 s1 L 0 w5 HB5.out⟩)
set_option maxRecDepth 100000 in
set_option maxHeartbeats 16000000 in
theorem named_2 (x : Ext) (A : Option Addr) (c : Nat) (hk : x.kind = 2) (hx : x.sum.length = 32) (w : World) :
 Calls Try.prog 33 #[.agg (x.cells A c).toArray] w fun e w'=>e = .returned (.agg ({ ext0 2 x.who with call:=x.call }.cells A c).toArray) ∧ Below w.heap.size w w':=by
 obtain ⟨X,hX⟩ : ∃ X,X = (x.cells A c).toArray:=⟨_,rfl⟩;obtain ⟨Z,hZ⟩ : ∃ Z,Z = (ext0 0 0).cells none 0:=⟨_,rfl⟩;obtain ⟨Y,hY⟩ : ∃ Y,Y = (ext0 2 x.who).cells none 0:=⟨_,rfl⟩
 have hZl : Z.length = 49:=by rw [hZ];rfl
 have hYl : Y.length = 49:=by rw [hY];rfl
 have hYo : ∀ v ∈ Y,v.oneCell' = true:=by rw [hY];exact Ext.cells_one _ _ _
 have hal : ∀ w,(zeroValue 33).run Try.prog w = .ok (.agg Z.toArray) w:=fun w=>by rw [hZ];exact zero_ext w
 have hbr : ∀ w,(Instr.build 33 #[(0,.int .i64 2),(1,.int .i64 x.who)]).run Try.prog w = .ok (.agg Y.toArray) w:=fun w=>run_build w _ _ _ (by rw [hY];exact built_ext 2 x.who);rw [← hX];have HX:=am hX;have HY:=am hY;have Hx:=am hx;have HZl:=am hZl;have HYl:=am hYl;have HYo:=am hYo;have HK:=am hk;clear hX hY hx hZ hZl hYl hYo hk;go_enter Try.func33,Try.ntmps33
 go_upto_region 1 with (first
  | ((with_reducible refine gate_dst (N:=1) rfl ?_);refine box_event ?hg (N:=1) ?hd (cs:=X) (t:=33) ?hr ?_;(case hd=>rfl);(case hg=>rfl);(case hr=>first | (go_simp;done) | (go_simp;rfl));intro g1 hg1 w1 hbox1 hb1;have BX1:=am (rangeAt_box (HX.out ▸ hbox1));have HXlt:=am (blk_lt hbox1);have HB1:=am hb1;clear hg1 hbox1 hb1)
  | ((with_reducible refine gate_dst (N:=2) rfl ?_);refine box_event ?hg (N:=2) ?hd (cs:=Z.toArray) (t:=33) ?hr ?_;(case hd=>rfl);(case hg=>rfl);(case hr=>first | (simp [execOp,Instr.alloc,hal,newVar,newRow,go_sem];done) | (simp [execOp,Instr.alloc,hal,newVar,newRow,go_sem];rfl));intro g2 hg2 w2 hbox2 hb2;have G2:=am hg2;have BZ2:=am (there_box hbox2);have HZlt:=am (blk_lt hbox2);have HB2:=am hb2;clear hg2 hbox2 hb2))
 obtain ⟨p0,p1,p2,p3,p4,p5,p6⟩:=x.at_head A c (rangeAt_below BX1.out HB2.out HXlt.out);rw [HK.out] at p0
 go_upto_region 2 with (first
  | ((with_reducible refine gate_dst (N:=8) rfl ?_);refine Kd.event_run (v:= .agg Y.toArray) (w1:=w2) rfl (by first | (simp [execOp,hbr,go_sem];done) | (simp [execOp,hbr,go_sem];rw [HY.out];rfl)) ?_)
  | ((with_reducible refine gate_dst (N:=3) rfl ?_);refine box_event ?hg (N:=3) ?hd (cs:=Z.toArray) (t:=33) ?hr ?_;(case hd=>rfl);(case hg=>rfl);(case hr=>first | (simp [execOp,Instr.alloc,hal,newVar,newRow,go_sem];done) | (simp [execOp,Instr.alloc,hal,newVar,newRow,go_sem];rfl));intro g3 hg3 w3 hbox3 hb3;have G3:=am hg3;have BZ3:=am (there_box hbox3);have HYlt:=am (blk_lt hbox3);have HB3:=am hb3;clear hg3 hbox3 hb3)
  | ((with_reducible refine gate_store (t:=33) (p:=3) rfl ?_);refine wpList_store_mid rfl 33 _ _ rfl g3 0 Y.toArray rfl rfl (by rw [List.size_toArray,HYl.out,← HZl.out];exact BZ3.out) (by rw [List.size_toArray,HYl.out];exact info_ext') (all_oneCell_toArray HYo.out) ?_))
 have ne13 : g1 ≠ g3:=by have:=G3.out;have:=HB2.out.size;have:=HXlt.out;omega
 have ne23 : g2 ≠ g3:=by have:=G3.out;have:=HZlt.out;omega
 have BX3:=rangeAt_below (rangeAt_below BX1.out HB2.out HXlt.out) HB3.out (by have:=HB2.out.size;have:=HXlt.out;omega);have BX4:=am (World.rangeAt_setCells_apart BX3 g3 0 Y (.inl ne13));have BY4:=am (World.rangeAt_setCells_same w3 g3 0 Y (by rw [HYl.out,← HZl.out];exact BZ3.out));have TY4:=am (World.there_setCells BZ3.out g3 0 Y);have TZ3 : w3.there g2 0 Z.length:=fun j hj=>⟨by rw [HB3.out.cell (p:=⟨g2,0 + j,none⟩) HZlt.out];exact (BZ2.out j hj).1,by rw [HB3.out.frozen (p:=⟨g2,0 + j,none⟩) HZlt.out];exact (BZ2.out j hj).2⟩;have TZ4:=am (World.there_setCells TZ3 g3 0 Y);have HB3a:=below_step (below_step HB1.out HB2.out) HB3.out;have HB4:=am (below_setCells g3 (by have:=G3.out;have:=(below_step HB1.out HB2.out).size;omega) Y 0 w3 HB3a)
 have s1 : w.heap.size ≤ g2:=by have:=G2.out;have:=HB1.out.size;omega
 have s2 : w.heap.size ≤ g3:=by have:=G3.out;have:=(below_step HB1.out HB2.out).size;omega
 clear BX3 TZ3 HB3a p0 p1 p2 p3 p4 p5 p6;generalize w3.setCells g3 0 Y = w4 at BX4 BY4 TY4 TZ4 HB4 ⊢;obtain ⟨p0,p1,p2,p3,p4,p5,p6⟩:=x.at_head A c BX4.out;rw [HK.out] at p0
 have c45 : w4.cell? ⟨g3,45,none⟩ = some (.int .i64 0):=by have:=BY4.out 45 (.int .i64 0) (by rw [HY.out];rfl);rw [Nat.zero_add] at this;exact this
 have f45 : w4.frozen? ⟨g3,45,none⟩ = false:=by have:=(TY4.out 45 (by rw [HZl.out];decide)).2;rw [Nat.zero_add] at this;exact this
 have c46 : w4.cell? ⟨g3,46,none⟩ = some (.int .i64 0):=by have:=BY4.out 46 (.int .i64 0) (by rw [HY.out];rfl);rw [Nat.zero_add] at this;exact this
 have f46 : w4.frozen? ⟨g3,46,none⟩ = false:=by have:=(TY4.out 46 (by rw [HZl.out];decide)).2;rw [Nat.zero_add] at this;exact this
 have c47 : w4.cell? ⟨g3,47,none⟩ = some (.int .i64 0):=by have:=BY4.out 47 (.int .i64 0) (by rw [HY.out];rfl);rw [Nat.zero_add] at this;exact this
 have f47 : w4.frozen? ⟨g3,47,none⟩ = false:=by have:=(TY4.out 47 (by rw [HZl.out];decide)).2;rw [Nat.zero_add] at this;exact this
 have c48 : w4.cell? ⟨g3,48,none⟩ = some (.slice none 0 0):=by have:=BY4.out 48 (.slice none 0 0) (by rw [HY.out];rfl);rw [Nat.zero_add] at this;exact this
 have f48 : w4.frozen? ⟨g3,48,none⟩ = false:=by have:=(TY4.out 48 (by rw [HZl.out];decide)).2;rw [Nat.zero_add] at this;exact this
 obtain ⟨u0,u1,u2,u3⟩:=x.at_call A c Hx.out BX4.out
 go_upto_region 22 with (fail)
 have TYs:=TY4.out;rw [HZl.out,← HYl.out] at TYs;have BY0_:=set_range BY4.out (by (try simp only [List.length_set]);exact TYs) 45 (by (try simp only [List.length_set]);rw [HYl.out];decide) (.int .i64 x.call.f0);have TY0_:=there_setCell TYs g3 45 (.int .i64 x.call.f0);have TZ0_:=there_setCell TZ4.out g3 45 (.int .i64 x.call.f0);have HB0_:=HB4.out.setCell (p:=⟨g3,45,none⟩) s2 (.int .i64 x.call.f0);have BY1_:=set_range BY0_ (by (try simp only [List.length_set]);exact TY0_) 46 (by (try simp only [List.length_set]);rw [HYl.out];decide) (.int .i64 x.call.f1);have TY1_:=there_setCell TY0_ g3 46 (.int .i64 x.call.f1);have TZ1_:=there_setCell TZ0_ g3 46 (.int .i64 x.call.f1);have HB1_:=HB0_.setCell (p:=⟨g3,46,none⟩) s2 (.int .i64 x.call.f1);have BY2_:=set_range BY1_ (by (try simp only [List.length_set]);exact TY1_) 47 (by (try simp only [List.length_set]);rw [HYl.out];decide) (.int .i64 x.call.f2);have TY2_:=there_setCell TY1_ g3 47 (.int .i64 x.call.f2);have TZ2_:=there_setCell TZ1_ g3 47 (.int .i64 x.call.f2);have HB2_:=HB1_.setCell (p:=⟨g3,47,none⟩) s2 (.int .i64 x.call.f2);have BY3_:=set_range BY2_ (by (try simp only [List.length_set]);exact TY2_) 48 (by (try simp only [List.length_set]);rw [HYl.out];decide) (.slice A x.call.f3.length c);have TY3_:=there_setCell TY2_ g3 48 (.slice A x.call.f3.length c);have TZ3_:=there_setCell TZ2_ g3 48 (.slice A x.call.f3.length c);have HB3_:=HB2_.setCell (p:=⟨g3,48,none⟩) s2 (.slice A x.call.f3.length c);obtain ⟨L,hL⟩ : ∃ L,L = ((((Y).set 45 (.int .i64 x.call.f0)).set 46 (.int .i64 x.call.f1)).set 47 (.int .i64 x.call.f2)).set 48 (.slice A x.call.f3.length c):=⟨_,rfl⟩;rw [← hL] at BY3_;have HLl:=am (by rw [hL];simp only [List.length_set];exact HYl.out : L.length = 49)
 have HLo:=am (by
  rw [hL];intro v hv
  rcases List.mem_or_eq_of_mem_set hv with hv | rfl
  rotate_left
  ·rfl
  rcases List.mem_or_eq_of_mem_set hv with hv | rfl
  rotate_left
  ·rfl
  rcases List.mem_or_eq_of_mem_set hv with hv | rfl
  rotate_left
  ·rfl
  rcases List.mem_or_eq_of_mem_set hv with hv | rfl
  rotate_left
  ·rfl
  exact HYo.out v hv : ∀ v ∈ L,v.oneCell' = true)
 have HL:=am hL;have BY5:=am BY3_;have TZ5:=am TZ3_;have HB5:=am HB3_;generalize ((((w4).setCell ⟨g3,45,none⟩ (.int .i64 x.call.f0)).setCell ⟨g3,46,none⟩ (.int .i64 x.call.f1)).setCell ⟨g3,47,none⟩ (.int .i64 x.call.f2)).setCell ⟨g3,48,none⟩ (.slice A x.call.f3.length c) = w5 at BY5 TZ5 HB5 ⊢
 go_wp2_with (first
  | ((with_reducible refine gate_dst (N:=75) rfl ?_);refine wpList_load_mid rfl 33 _ rfl g3 0 rfl L _ BY5.out Try.underlying33 rfl (by rw [HLl.out];exact info_ext') ?_)
  | ((with_reducible refine gate_store (t:=33) (p:=2) rfl ?_);refine wpList_store_mid rfl 33 _ _ rfl g2 0 L.toArray rfl rfl (by rw [List.size_toArray,HLl.out,← HZl.out];exact TZ5.out) (by rw [List.size_toArray,HLl.out];exact info_ext') (all_oneCell_toArray HLo.out) ?_))
 have BR:=World.rangeAt_setCells_same w5 g2 0 L (by rw [HLl.out,← HZl.out];exact TZ5.out);have hres:=run_loadVar_mid (P:=Try.prog) (w5.setCells g2 0 L) g2 0 33 L _ BR Try.underlying33 rfl (by rw [HLl.out];exact info_ext');refine bodyPost_ret (v:= .agg L.toArray) (results_cell rfl _ rfl hres) rfl ?_;exact ⟨by rw [HL.out,HY.out];rfl,below_setCells g2 s1 L 0 w5 HB5.out⟩
set_option maxRecDepth 100000 in
set_option maxHeartbeats 16000000 in
theorem named_5 (x : Ext) (A : Option Addr) (c : Nat) (hk : x.kind = 5) (hx : x.sum.length = 32) (w : World) :
 Calls Try.prog 33 #[.agg (x.cells A c).toArray] w fun e w'=>e = .returned (.agg ({ ext0 5 x.who with rfd:=x.rfd }.cells none 0).toArray) ∧ Below w.heap.size w w':=by
 obtain ⟨X,hX⟩ : ∃ X,X = (x.cells A c).toArray:=⟨_,rfl⟩;obtain ⟨Z,hZ⟩ : ∃ Z,Z = (ext0 0 0).cells none 0:=⟨_,rfl⟩;obtain ⟨Y,hY⟩ : ∃ Y,Y = (ext0 5 x.who).cells none 0:=⟨_,rfl⟩
 have hZl : Z.length = 49:=by rw [hZ];rfl
 have hYl : Y.length = 49:=by rw [hY];rfl
 have hYo : ∀ v ∈ Y,v.oneCell' = true:=by rw [hY];exact Ext.cells_one _ _ _
 have hal : ∀ w,(zeroValue 33).run Try.prog w = .ok (.agg Z.toArray) w:=fun w=>by rw [hZ];exact zero_ext w
 have hbr : ∀ w,(Instr.build 33 #[(0,.int .i64 5),(1,.int .i64 x.who)]).run Try.prog w = .ok (.agg Y.toArray) w:=fun w=>run_build w _ _ _ (by rw [hY];exact built_ext 5 x.who);rw [← hX];have HX:=am hX;have HY:=am hY;have Hx:=am hx;have HZl:=am hZl;have HYl:=am hYl;have HYo:=am hYo;have HK:=am hk;clear hX hY hx hZ hZl hYl hYo hk;go_enter Try.func33,Try.ntmps33
 go_upto_region 1 with (first
  | ((with_reducible refine gate_dst (N:=1) rfl ?_);refine box_event ?hg (N:=1) ?hd (cs:=X) (t:=33) ?hr ?_;(case hd=>rfl);(case hg=>rfl);(case hr=>first | (go_simp;done) | (go_simp;rfl));intro g1 hg1 w1 hbox1 hb1;have BX1:=am (rangeAt_box (HX.out ▸ hbox1));have HXlt:=am (blk_lt hbox1);have HB1:=am hb1;clear hg1 hbox1 hb1)
  | ((with_reducible refine gate_dst (N:=2) rfl ?_);refine box_event ?hg (N:=2) ?hd (cs:=Z.toArray) (t:=33) ?hr ?_;(case hd=>rfl);(case hg=>rfl);(case hr=>first | (simp [execOp,Instr.alloc,hal,newVar,newRow,go_sem];done) | (simp [execOp,Instr.alloc,hal,newVar,newRow,go_sem];rfl));intro g2 hg2 w2 hbox2 hb2;have G2:=am hg2;have BZ2:=am (there_box hbox2);have HZlt:=am (blk_lt hbox2);have HB2:=am hb2;clear hg2 hbox2 hb2))
 obtain ⟨p0,p1,p2,p3,p4,p5,p6⟩:=x.at_head A c (rangeAt_below BX1.out HB2.out HXlt.out);rw [HK.out] at p0
 go_upto_region 2 with (first
  | ((with_reducible refine gate_dst (N:=8) rfl ?_);refine Kd.event_run (v:= .agg Y.toArray) (w1:=w2) rfl (by first | (simp [execOp,hbr,go_sem];done) | (simp [execOp,hbr,go_sem];rw [HY.out];rfl)) ?_)
  | ((with_reducible refine gate_dst (N:=3) rfl ?_);refine box_event ?hg (N:=3) ?hd (cs:=Z.toArray) (t:=33) ?hr ?_;(case hd=>rfl);(case hg=>rfl);(case hr=>first | (simp [execOp,Instr.alloc,hal,newVar,newRow,go_sem];done) | (simp [execOp,Instr.alloc,hal,newVar,newRow,go_sem];rfl));intro g3 hg3 w3 hbox3 hb3;have G3:=am hg3;have BZ3:=am (there_box hbox3);have HYlt:=am (blk_lt hbox3);have HB3:=am hb3;clear hg3 hbox3 hb3)
  | ((with_reducible refine gate_store (t:=33) (p:=3) rfl ?_);refine wpList_store_mid rfl 33 _ _ rfl g3 0 Y.toArray rfl rfl (by rw [List.size_toArray,HYl.out,← HZl.out];exact BZ3.out) (by rw [List.size_toArray,HYl.out];exact info_ext') (all_oneCell_toArray HYo.out) ?_))
 have ne13 : g1 ≠ g3:=by have:=G3.out;have:=HB2.out.size;have:=HXlt.out;omega
 have ne23 : g2 ≠ g3:=by have:=G3.out;have:=HZlt.out;omega
 have BX3:=rangeAt_below (rangeAt_below BX1.out HB2.out HXlt.out) HB3.out (by have:=HB2.out.size;have:=HXlt.out;omega);have BX4:=am (World.rangeAt_setCells_apart BX3 g3 0 Y (.inl ne13));have BY4:=am (World.rangeAt_setCells_same w3 g3 0 Y (by rw [HYl.out,← HZl.out];exact BZ3.out));have TY4:=am (World.there_setCells BZ3.out g3 0 Y);have TZ3 : w3.there g2 0 Z.length:=fun j hj=>⟨by rw [HB3.out.cell (p:=⟨g2,0 + j,none⟩) HZlt.out];exact (BZ2.out j hj).1,by rw [HB3.out.frozen (p:=⟨g2,0 + j,none⟩) HZlt.out];exact (BZ2.out j hj).2⟩;have TZ4:=am (World.there_setCells TZ3 g3 0 Y);have HB3a:=below_step (below_step HB1.out HB2.out) HB3.out;have HB4:=am (below_setCells g3 (by have:=G3.out;have:=(below_step HB1.out HB2.out).size;omega) Y 0 w3 HB3a)
 have s1 : w.heap.size ≤ g2:=by have:=G2.out;have:=HB1.out.size;omega
 have s2 : w.heap.size ≤ g3:=by have:=G3.out;have:=(below_step HB1.out HB2.out).size;omega
 clear BX3 TZ3 HB3a p0 p1 p2 p3 p4 p5 p6;generalize w3.setCells g3 0 Y = w4 at BX4 BY4 TY4 TZ4 HB4 ⊢;obtain ⟨p0,p1,p2,p3,p4,p5,p6⟩:=x.at_head A c BX4.out;rw [HK.out] at p0
 have c4 : w4.cell? ⟨g3,4,none⟩ = some (.int .i64 0):=by have:=BY4.out 4 (.int .i64 0) (by rw [HY.out];rfl);rw [Nat.zero_add] at this;exact this
 have f4 : w4.frozen? ⟨g3,4,none⟩ = false:=by have:=(TY4.out 4 (by rw [HZl.out];decide)).2;rw [Nat.zero_add] at this;exact this
 go_upto_region 22 with (fail)
 have TYs:=TY4.out;rw [HZl.out,← HYl.out] at TYs;have BY0_:=set_range BY4.out (by (try simp only [List.length_set]);exact TYs) 4 (by (try simp only [List.length_set]);rw [HYl.out];decide) (.int .i64 x.rfd);have TY0_:=there_setCell TYs g3 4 (.int .i64 x.rfd);have TZ0_:=there_setCell TZ4.out g3 4 (.int .i64 x.rfd);have HB0_:=HB4.out.setCell (p:=⟨g3,4,none⟩) s2 (.int .i64 x.rfd);obtain ⟨L,hL⟩ : ∃ L,L = (Y).set 4 (.int .i64 x.rfd):=⟨_,rfl⟩;rw [← hL] at BY0_;have HLl:=am (by rw [hL];simp only [List.length_set];exact HYl.out : L.length = 49)
 have HLo:=am (by
  rw [hL];intro v hv
  rcases List.mem_or_eq_of_mem_set hv with hv | rfl
  rotate_left
  ·rfl
  exact HYo.out v hv : ∀ v ∈ L,v.oneCell' = true)
 have HL:=am hL;have BY5:=am BY0_;have TZ5:=am TZ0_;have HB5:=am HB0_;generalize (w4).setCell ⟨g3,4,none⟩ (.int .i64 x.rfd) = w5 at BY5 TZ5 HB5 ⊢
 go_wp2_with (first
  | ((with_reducible refine gate_dst (N:=75) rfl ?_);refine wpList_load_mid rfl 33 _ rfl g3 0 rfl L _ BY5.out Try.underlying33 rfl (by rw [HLl.out];exact info_ext') ?_)
  | ((with_reducible refine gate_store (t:=33) (p:=2) rfl ?_);refine wpList_store_mid rfl 33 _ _ rfl g2 0 L.toArray rfl rfl (by rw [List.size_toArray,HLl.out,← HZl.out];exact TZ5.out) (by rw [List.size_toArray,HLl.out];exact info_ext') (all_oneCell_toArray HLo.out) ?_))
 have BR:=World.rangeAt_setCells_same w5 g2 0 L (by rw [HLl.out,← HZl.out];exact TZ5.out);have hres:=run_loadVar_mid (P:=Try.prog) (w5.setCells g2 0 L) g2 0 33 L _ BR Try.underlying33 rfl (by rw [HLl.out];exact info_ext');refine bodyPost_ret (v:= .agg L.toArray) (results_cell rfl _ rfl hres) rfl ?_;exact ⟨by rw [HL.out,HY.out];rfl,below_setCells g2 s1 L 0 w5 HB5.out⟩
set_option maxRecDepth 100000 in
set_option maxHeartbeats 16000000 in
theorem named_6 (x : Ext) (A : Option Addr) (c : Nat) (hk : x.kind = 6) (hx : x.sum.length = 32) (w : World) :
 Calls Try.prog 33 #[.agg (x.cells A c).toArray] w fun e w'=>e = .returned (.agg ({ ext0 6 x.who with rfd:=x.rfd }.cells none 0).toArray) ∧ Below w.heap.size w w':=by
 obtain ⟨X,hX⟩ : ∃ X,X = (x.cells A c).toArray:=⟨_,rfl⟩;obtain ⟨Z,hZ⟩ : ∃ Z,Z = (ext0 0 0).cells none 0:=⟨_,rfl⟩;obtain ⟨Y,hY⟩ : ∃ Y,Y = (ext0 6 x.who).cells none 0:=⟨_,rfl⟩
 have hZl : Z.length = 49:=by rw [hZ];rfl
 have hYl : Y.length = 49:=by rw [hY];rfl
 have hYo : ∀ v ∈ Y,v.oneCell' = true:=by rw [hY];exact Ext.cells_one _ _ _
 have hal : ∀ w,(zeroValue 33).run Try.prog w = .ok (.agg Z.toArray) w:=fun w=>by rw [hZ];exact zero_ext w
 have hbr : ∀ w,(Instr.build 33 #[(0,.int .i64 6),(1,.int .i64 x.who)]).run Try.prog w = .ok (.agg Y.toArray) w:=fun w=>run_build w _ _ _ (by rw [hY];exact built_ext 6 x.who);rw [← hX];have HX:=am hX;have HY:=am hY;have Hx:=am hx;have HZl:=am hZl;have HYl:=am hYl;have HYo:=am hYo;have HK:=am hk;clear hX hY hx hZ hZl hYl hYo hk;go_enter Try.func33,Try.ntmps33
 go_upto_region 1 with (first
  | ((with_reducible refine gate_dst (N:=1) rfl ?_);refine box_event ?hg (N:=1) ?hd (cs:=X) (t:=33) ?hr ?_;(case hd=>rfl);(case hg=>rfl);(case hr=>first | (go_simp;done) | (go_simp;rfl));intro g1 hg1 w1 hbox1 hb1;have BX1:=am (rangeAt_box (HX.out ▸ hbox1));have HXlt:=am (blk_lt hbox1);have HB1:=am hb1;clear hg1 hbox1 hb1)
  | ((with_reducible refine gate_dst (N:=2) rfl ?_);refine box_event ?hg (N:=2) ?hd (cs:=Z.toArray) (t:=33) ?hr ?_;(case hd=>rfl);(case hg=>rfl);(case hr=>first | (simp [execOp,Instr.alloc,hal,newVar,newRow,go_sem];done) | (simp [execOp,Instr.alloc,hal,newVar,newRow,go_sem];rfl));intro g2 hg2 w2 hbox2 hb2;have G2:=am hg2;have BZ2:=am (there_box hbox2);have HZlt:=am (blk_lt hbox2);have HB2:=am hb2;clear hg2 hbox2 hb2))
 obtain ⟨p0,p1,p2,p3,p4,p5,p6⟩:=x.at_head A c (rangeAt_below BX1.out HB2.out HXlt.out);rw [HK.out] at p0
 go_upto_region 2 with (first
  | ((with_reducible refine gate_dst (N:=8) rfl ?_);refine Kd.event_run (v:= .agg Y.toArray) (w1:=w2) rfl (by first | (simp [execOp,hbr,go_sem];done) | (simp [execOp,hbr,go_sem];rw [HY.out];rfl)) ?_)
  | ((with_reducible refine gate_dst (N:=3) rfl ?_);refine box_event ?hg (N:=3) ?hd (cs:=Z.toArray) (t:=33) ?hr ?_;(case hd=>rfl);(case hg=>rfl);(case hr=>first | (simp [execOp,Instr.alloc,hal,newVar,newRow,go_sem];done) | (simp [execOp,Instr.alloc,hal,newVar,newRow,go_sem];rfl));intro g3 hg3 w3 hbox3 hb3;have G3:=am hg3;have BZ3:=am (there_box hbox3);have HYlt:=am (blk_lt hbox3);have HB3:=am hb3;clear hg3 hbox3 hb3)
  | ((with_reducible refine gate_store (t:=33) (p:=3) rfl ?_);refine wpList_store_mid rfl 33 _ _ rfl g3 0 Y.toArray rfl rfl (by rw [List.size_toArray,HYl.out,← HZl.out];exact BZ3.out) (by rw [List.size_toArray,HYl.out];exact info_ext') (all_oneCell_toArray HYo.out) ?_))
 have ne13 : g1 ≠ g3:=by have:=G3.out;have:=HB2.out.size;have:=HXlt.out;omega
 have ne23 : g2 ≠ g3:=by have:=G3.out;have:=HZlt.out;omega
 have BX3:=rangeAt_below (rangeAt_below BX1.out HB2.out HXlt.out) HB3.out (by have:=HB2.out.size;have:=HXlt.out;omega);have BX4:=am (World.rangeAt_setCells_apart BX3 g3 0 Y (.inl ne13));have BY4:=am (World.rangeAt_setCells_same w3 g3 0 Y (by rw [HYl.out,← HZl.out];exact BZ3.out));have TY4:=am (World.there_setCells BZ3.out g3 0 Y);have TZ3 : w3.there g2 0 Z.length:=fun j hj=>⟨by rw [HB3.out.cell (p:=⟨g2,0 + j,none⟩) HZlt.out];exact (BZ2.out j hj).1,by rw [HB3.out.frozen (p:=⟨g2,0 + j,none⟩) HZlt.out];exact (BZ2.out j hj).2⟩;have TZ4:=am (World.there_setCells TZ3 g3 0 Y);have HB3a:=below_step (below_step HB1.out HB2.out) HB3.out;have HB4:=am (below_setCells g3 (by have:=G3.out;have:=(below_step HB1.out HB2.out).size;omega) Y 0 w3 HB3a)
 have s1 : w.heap.size ≤ g2:=by have:=G2.out;have:=HB1.out.size;omega
 have s2 : w.heap.size ≤ g3:=by have:=G3.out;have:=(below_step HB1.out HB2.out).size;omega
 clear BX3 TZ3 HB3a p0 p1 p2 p3 p4 p5 p6;generalize w3.setCells g3 0 Y = w4 at BX4 BY4 TY4 TZ4 HB4 ⊢;obtain ⟨p0,p1,p2,p3,p4,p5,p6⟩:=x.at_head A c BX4.out;rw [HK.out] at p0
 have c4 : w4.cell? ⟨g3,4,none⟩ = some (.int .i64 0):=by have:=BY4.out 4 (.int .i64 0) (by rw [HY.out];rfl);rw [Nat.zero_add] at this;exact this
 have f4 : w4.frozen? ⟨g3,4,none⟩ = false:=by have:=(TY4.out 4 (by rw [HZl.out];decide)).2;rw [Nat.zero_add] at this;exact this
 go_upto_region 22 with (fail)
 have TYs:=TY4.out;rw [HZl.out,← HYl.out] at TYs;have BY0_:=set_range BY4.out (by (try simp only [List.length_set]);exact TYs) 4 (by (try simp only [List.length_set]);rw [HYl.out];decide) (.int .i64 x.rfd);have TY0_:=there_setCell TYs g3 4 (.int .i64 x.rfd);have TZ0_:=there_setCell TZ4.out g3 4 (.int .i64 x.rfd);have HB0_:=HB4.out.setCell (p:=⟨g3,4,none⟩) s2 (.int .i64 x.rfd);obtain ⟨L,hL⟩ : ∃ L,L = (Y).set 4 (.int .i64 x.rfd):=⟨_,rfl⟩;rw [← hL] at BY0_;have HLl:=am (by rw [hL];simp only [List.length_set];exact HYl.out : L.length = 49)
 have HLo:=am (by
  rw [hL];intro v hv
  rcases List.mem_or_eq_of_mem_set hv with hv | rfl
  rotate_left
  ·rfl
  exact HYo.out v hv : ∀ v ∈ L,v.oneCell' = true)
 have HL:=am hL;have BY5:=am BY0_;have TZ5:=am TZ0_;have HB5:=am HB0_;generalize (w4).setCell ⟨g3,4,none⟩ (.int .i64 x.rfd) = w5 at BY5 TZ5 HB5 ⊢
 go_wp2_with (first
  | ((with_reducible refine gate_dst (N:=75) rfl ?_);refine wpList_load_mid rfl 33 _ rfl g3 0 rfl L _ BY5.out Try.underlying33 rfl (by rw [HLl.out];exact info_ext') ?_)
  | ((with_reducible refine gate_store (t:=33) (p:=2) rfl ?_);refine wpList_store_mid rfl 33 _ _ rfl g2 0 L.toArray rfl rfl (by rw [List.size_toArray,HLl.out,← HZl.out];exact TZ5.out) (by rw [List.size_toArray,HLl.out];exact info_ext') (all_oneCell_toArray HLo.out) ?_))
 have BR:=World.rangeAt_setCells_same w5 g2 0 L (by rw [HLl.out,← HZl.out];exact TZ5.out);have hres:=run_loadVar_mid (P:=Try.prog) (w5.setCells g2 0 L) g2 0 33 L _ BR Try.underlying33 rfl (by rw [HLl.out];exact info_ext');refine bodyPost_ret (v:= .agg L.toArray) (results_cell rfl _ rfl hres) rfl ?_;exact ⟨by rw [HL.out,HY.out];rfl,below_setCells g2 s1 L 0 w5 HB5.out⟩
set_option maxRecDepth 100000 in
set_option maxHeartbeats 16000000 in
theorem named_7 (x : Ext) (A : Option Addr) (c : Nat) (hk : x.kind = 7) (hx : x.sum.length = 32) (w : World) :
 Calls Try.prog 33 #[.agg (x.cells A c).toArray] w fun e w'=>e = .returned (.agg ({ ext0 7 x.who with rfd:=x.rfd,vkind:=x.vkind,vaye:=x.vaye,vlevel:=x.vlevel,va:=x.va,vn:=x.vn,vs:=x.vs }.cells none 0).toArray) ∧ Below w.heap.size w w':=by
 obtain ⟨X,hX⟩ : ∃ X,X = (x.cells A c).toArray:=⟨_,rfl⟩;obtain ⟨Z,hZ⟩ : ∃ Z,Z = (ext0 0 0).cells none 0:=⟨_,rfl⟩;obtain ⟨Y,hY⟩ : ∃ Y,Y = (ext0 7 x.who).cells none 0:=⟨_,rfl⟩
 have hZl : Z.length = 49:=by rw [hZ];rfl
 have hYl : Y.length = 49:=by rw [hY];rfl
 have hYo : ∀ v ∈ Y,v.oneCell' = true:=by rw [hY];exact Ext.cells_one _ _ _
 have hal : ∀ w,(zeroValue 33).run Try.prog w = .ok (.agg Z.toArray) w:=fun w=>by rw [hZ];exact zero_ext w
 have hbr : ∀ w,(Instr.build 33 #[(0,.int .i64 7),(1,.int .i64 x.who)]).run Try.prog w = .ok (.agg Y.toArray) w:=fun w=>run_build w _ _ _ (by rw [hY];exact built_ext 7 x.who);rw [← hX];have HX:=am hX;have HY:=am hY;have Hx:=am hx;have HZl:=am hZl;have HYl:=am hYl;have HYo:=am hYo;have HK:=am hk;clear hX hY hx hZ hZl hYl hYo hk;go_enter Try.func33,Try.ntmps33
 go_upto_region 1 with (first
  | ((with_reducible refine gate_dst (N:=1) rfl ?_);refine box_event ?hg (N:=1) ?hd (cs:=X) (t:=33) ?hr ?_;(case hd=>rfl);(case hg=>rfl);(case hr=>first | (go_simp;done) | (go_simp;rfl));intro g1 hg1 w1 hbox1 hb1;have BX1:=am (rangeAt_box (HX.out ▸ hbox1));have HXlt:=am (blk_lt hbox1);have HB1:=am hb1;clear hg1 hbox1 hb1)
  | ((with_reducible refine gate_dst (N:=2) rfl ?_);refine box_event ?hg (N:=2) ?hd (cs:=Z.toArray) (t:=33) ?hr ?_;(case hd=>rfl);(case hg=>rfl);(case hr=>first | (simp [execOp,Instr.alloc,hal,newVar,newRow,go_sem];done) | (simp [execOp,Instr.alloc,hal,newVar,newRow,go_sem];rfl));intro g2 hg2 w2 hbox2 hb2;have G2:=am hg2;have BZ2:=am (there_box hbox2);have HZlt:=am (blk_lt hbox2);have HB2:=am hb2;clear hg2 hbox2 hb2))
 obtain ⟨p0,p1,p2,p3,p4,p5,p6⟩:=x.at_head A c (rangeAt_below BX1.out HB2.out HXlt.out);rw [HK.out] at p0
 go_upto_region 2 with (first
  | ((with_reducible refine gate_dst (N:=8) rfl ?_);refine Kd.event_run (v:= .agg Y.toArray) (w1:=w2) rfl (by first | (simp [execOp,hbr,go_sem];done) | (simp [execOp,hbr,go_sem];rw [HY.out];rfl)) ?_)
  | ((with_reducible refine gate_dst (N:=3) rfl ?_);refine box_event ?hg (N:=3) ?hd (cs:=Z.toArray) (t:=33) ?hr ?_;(case hd=>rfl);(case hg=>rfl);(case hr=>first | (simp [execOp,Instr.alloc,hal,newVar,newRow,go_sem];done) | (simp [execOp,Instr.alloc,hal,newVar,newRow,go_sem];rfl));intro g3 hg3 w3 hbox3 hb3;have G3:=am hg3;have BZ3:=am (there_box hbox3);have HYlt:=am (blk_lt hbox3);have HB3:=am hb3;clear hg3 hbox3 hb3)
  | ((with_reducible refine gate_store (t:=33) (p:=3) rfl ?_);refine wpList_store_mid rfl 33 _ _ rfl g3 0 Y.toArray rfl rfl (by rw [List.size_toArray,HYl.out,← HZl.out];exact BZ3.out) (by rw [List.size_toArray,HYl.out];exact info_ext') (all_oneCell_toArray HYo.out) ?_))
 have ne13 : g1 ≠ g3:=by have:=G3.out;have:=HB2.out.size;have:=HXlt.out;omega
 have ne23 : g2 ≠ g3:=by have:=G3.out;have:=HZlt.out;omega
 have BX3:=rangeAt_below (rangeAt_below BX1.out HB2.out HXlt.out) HB3.out (by have:=HB2.out.size;have:=HXlt.out;omega);have BX4:=am (World.rangeAt_setCells_apart BX3 g3 0 Y (.inl ne13));have BY4:=am (World.rangeAt_setCells_same w3 g3 0 Y (by rw [HYl.out,← HZl.out];exact BZ3.out));have TY4:=am (World.there_setCells BZ3.out g3 0 Y);have TZ3 : w3.there g2 0 Z.length:=fun j hj=>⟨by rw [HB3.out.cell (p:=⟨g2,0 + j,none⟩) HZlt.out];exact (BZ2.out j hj).1,by rw [HB3.out.frozen (p:=⟨g2,0 + j,none⟩) HZlt.out];exact (BZ2.out j hj).2⟩;have TZ4:=am (World.there_setCells TZ3 g3 0 Y);have HB3a:=below_step (below_step HB1.out HB2.out) HB3.out;have HB4:=am (below_setCells g3 (by have:=G3.out;have:=(below_step HB1.out HB2.out).size;omega) Y 0 w3 HB3a)
 have s1 : w.heap.size ≤ g2:=by have:=G2.out;have:=HB1.out.size;omega
 have s2 : w.heap.size ≤ g3:=by have:=G3.out;have:=(below_step HB1.out HB2.out).size;omega
 clear BX3 TZ3 HB3a p0 p1 p2 p3 p4 p5 p6;generalize w3.setCells g3 0 Y = w4 at BX4 BY4 TY4 TZ4 HB4 ⊢;obtain ⟨p0,p1,p2,p3,p4,p5,p6⟩:=x.at_head A c BX4.out;rw [HK.out] at p0
 have c4 : w4.cell? ⟨g3,4,none⟩ = some (.int .i64 0):=by have:=BY4.out 4 (.int .i64 0) (by rw [HY.out];rfl);rw [Nat.zero_add] at this;exact this
 have f4 : w4.frozen? ⟨g3,4,none⟩ = false:=by have:=(TY4.out 4 (by rw [HZl.out];decide)).2;rw [Nat.zero_add] at this;exact this
 have c39 : w4.cell? ⟨g3,39,none⟩ = some (.int .i64 0):=by have:=BY4.out 39 (.int .i64 0) (by rw [HY.out];rfl);rw [Nat.zero_add] at this;exact this
 have f39 : w4.frozen? ⟨g3,39,none⟩ = false:=by have:=(TY4.out 39 (by rw [HZl.out];decide)).2;rw [Nat.zero_add] at this;exact this
 have c40 : w4.cell? ⟨g3,40,none⟩ = some (.bool false):=by have:=BY4.out 40 (.bool false) (by rw [HY.out];rfl);rw [Nat.zero_add] at this;exact this
 have f40 : w4.frozen? ⟨g3,40,none⟩ = false:=by have:=(TY4.out 40 (by rw [HZl.out];decide)).2;rw [Nat.zero_add] at this;exact this
 have c41 : w4.cell? ⟨g3,41,none⟩ = some (.int .i64 0):=by have:=BY4.out 41 (.int .i64 0) (by rw [HY.out];rfl);rw [Nat.zero_add] at this;exact this
 have f41 : w4.frozen? ⟨g3,41,none⟩ = false:=by have:=(TY4.out 41 (by rw [HZl.out];decide)).2;rw [Nat.zero_add] at this;exact this
 have c42 : w4.cell? ⟨g3,42,none⟩ = some (.int .i64 0):=by have:=BY4.out 42 (.int .i64 0) (by rw [HY.out];rfl);rw [Nat.zero_add] at this;exact this
 have f42 : w4.frozen? ⟨g3,42,none⟩ = false:=by have:=(TY4.out 42 (by rw [HZl.out];decide)).2;rw [Nat.zero_add] at this;exact this
 have c43 : w4.cell? ⟨g3,43,none⟩ = some (.int .i64 0):=by have:=BY4.out 43 (.int .i64 0) (by rw [HY.out];rfl);rw [Nat.zero_add] at this;exact this
 have f43 : w4.frozen? ⟨g3,43,none⟩ = false:=by have:=(TY4.out 43 (by rw [HZl.out];decide)).2;rw [Nat.zero_add] at this;exact this
 have c44 : w4.cell? ⟨g3,44,none⟩ = some (.int .i64 0):=by have:=BY4.out 44 (.int .i64 0) (by rw [HY.out];rfl);rw [Nat.zero_add] at this;exact this
 have f44 : w4.frozen? ⟨g3,44,none⟩ = false:=by have:=(TY4.out 44 (by rw [HZl.out];decide)).2;rw [Nat.zero_add] at this;exact this
 obtain ⟨u0,u1,u2,u3,u4,u5⟩:=x.at_vote A c Hx.out BX4.out
 go_upto_region 16 with (fail)
 have ne31 : g3 ≠ g1:=fun e=>ne13 e.symm
 go_region_held3 (fun w'=>w'.cell? ⟨g1,4,none⟩ = some (.int .i64 x.rfd) ∧ w'.cell? ⟨g1,39,none⟩ = some (.int .i64 x.vkind) ∧ w'.cell? ⟨g1,40,none⟩ = some (.bool x.vaye) ∧ w'.cell? ⟨g1,41,none⟩ = some (.int .i64 x.vlevel) ∧ w'.cell? ⟨g1,42,none⟩ = some (.int .i64 x.va) ∧ w'.cell? ⟨g1,43,none⟩ = some (.int .i64 x.vn) ∧ w'.cell? ⟨g1,44,none⟩ = some (.int .i64 x.vs)) (go_keep) (fail)
 go_upto_region 22 with (fail)
 all_goals (
  have TYs:=TY4.out;rw [HZl.out,← HYl.out] at TYs;have BY0_:=set_range BY4.out (by (try simp only [List.length_set]);exact TYs) 4 (by (try simp only [List.length_set]);rw [HYl.out];decide) (.int .i64 x.rfd);have TY0_:=there_setCell TYs g3 4 (.int .i64 x.rfd);have TZ0_:=there_setCell TZ4.out g3 4 (.int .i64 x.rfd);have HB0_:=HB4.out.setCell (p:=⟨g3,4,none⟩) s2 (.int .i64 x.rfd);have BY1_:=set_range BY0_ (by (try simp only [List.length_set]);exact TY0_) 39 (by (try simp only [List.length_set]);rw [HYl.out];decide) (.int .i64 x.vkind);have TY1_:=there_setCell TY0_ g3 39 (.int .i64 x.vkind);have TZ1_:=there_setCell TZ0_ g3 39 (.int .i64 x.vkind);have HB1_:=HB0_.setCell (p:=⟨g3,39,none⟩) s2 (.int .i64 x.vkind);have BY2_:=set_range BY1_ (by (try simp only [List.length_set]);exact TY1_) 40 (by (try simp only [List.length_set]);rw [HYl.out];decide) (.bool x.vaye);have TY2_:=there_setCell TY1_ g3 40 (.bool x.vaye);have TZ2_:=there_setCell TZ1_ g3 40 (.bool x.vaye);have HB2_:=HB1_.setCell (p:=⟨g3,40,none⟩) s2 (.bool x.vaye);have BY3_:=set_range BY2_ (by (try simp only [List.length_set]);exact TY2_) 41 (by (try simp only [List.length_set]);rw [HYl.out];decide) (.int .i64 x.vlevel);have TY3_:=there_setCell TY2_ g3 41 (.int .i64 x.vlevel);have TZ3_:=there_setCell TZ2_ g3 41 (.int .i64 x.vlevel);have HB3_:=HB2_.setCell (p:=⟨g3,41,none⟩) s2 (.int .i64 x.vlevel);have BY4_:=set_range BY3_ (by (try simp only [List.length_set]);exact TY3_) 42 (by (try simp only [List.length_set]);rw [HYl.out];decide) (.int .i64 x.va);have TY4_:=there_setCell TY3_ g3 42 (.int .i64 x.va);have TZ4_:=there_setCell TZ3_ g3 42 (.int .i64 x.va);have HB4_:=HB3_.setCell (p:=⟨g3,42,none⟩) s2 (.int .i64 x.va);have BY5_:=set_range BY4_ (by (try simp only [List.length_set]);exact TY4_) 43 (by (try simp only [List.length_set]);rw [HYl.out];decide) (.int .i64 x.vn);have TY5_:=there_setCell TY4_ g3 43 (.int .i64 x.vn);have TZ5_:=there_setCell TZ4_ g3 43 (.int .i64 x.vn);have HB5_:=HB4_.setCell (p:=⟨g3,43,none⟩) s2 (.int .i64 x.vn);have BY6_:=set_range BY5_ (by (try simp only [List.length_set]);exact TY5_) 44 (by (try simp only [List.length_set]);rw [HYl.out];decide) (.int .i64 x.vs);have TY6_:=there_setCell TY5_ g3 44 (.int .i64 x.vs);have TZ6_:=there_setCell TZ5_ g3 44 (.int .i64 x.vs);have HB6_:=HB5_.setCell (p:=⟨g3,44,none⟩) s2 (.int .i64 x.vs);have BYd:=(World.rangeAt_drew _ g3 0 _).2 BY6_;have TZd:=(World.there_drew _ g2 0 Z.length).2 TZ6_;have HBd:=below_drew HB6_;obtain ⟨L,hL⟩ : ∃ L,L = (((((((Y).set 4 (.int .i64 x.rfd)).set 39 (.int .i64 x.vkind)).set 40 (.bool x.vaye)).set 41 (.int .i64 x.vlevel)).set 42 (.int .i64 x.va)).set 43 (.int .i64 x.vn)).set 44 (.int .i64 x.vs):=⟨_,rfl⟩;rw [← hL] at BYd;have HLl:=am (by rw [hL];simp only [List.length_set];exact HYl.out : L.length = 49)
  have HLo:=am (by
   rw [hL];intro v hv
   rcases List.mem_or_eq_of_mem_set hv with hv | rfl
   rotate_left
   ·rfl
   rcases List.mem_or_eq_of_mem_set hv with hv | rfl
   rotate_left
   ·rfl
   rcases List.mem_or_eq_of_mem_set hv with hv | rfl
   rotate_left
   ·rfl
   rcases List.mem_or_eq_of_mem_set hv with hv | rfl
   rotate_left
   ·rfl
   rcases List.mem_or_eq_of_mem_set hv with hv | rfl
   rotate_left
   ·rfl
   rcases List.mem_or_eq_of_mem_set hv with hv | rfl
   rotate_left
   ·rfl
   rcases List.mem_or_eq_of_mem_set hv with hv | rfl
   rotate_left
   ·rfl
   exact HYo.out v hv : ∀ v ∈ L,v.oneCell' = true)
  have HL:=am hL;have BY5:=am BYd;have TZ5:=am TZd;have HB5:=am HBd;generalize ((((((((w4).setCell ⟨g3,4,none⟩ (.int .i64 x.rfd)).setCell ⟨g3,39,none⟩ (.int .i64 x.vkind)).setCell ⟨g3,40,none⟩ (.bool x.vaye)).setCell ⟨g3,41,none⟩ (.int .i64 x.vlevel)).setCell ⟨g3,42,none⟩ (.int .i64 x.va)).setCell ⟨g3,43,none⟩ (.int .i64 x.vn)).setCell ⟨g3,44,none⟩ (.int .i64 x.vs)).drew = w5 at BY5 TZ5 HB5 ⊢
  go_wp2_with (first
   | ((with_reducible refine gate_dst (N:=75) rfl ?_);refine wpList_load_mid rfl 33 _ rfl g3 0 rfl L _ BY5.out Try.underlying33 rfl (by rw [HLl.out];exact info_ext') ?_)
   | ((with_reducible refine gate_store (t:=33) (p:=2) rfl ?_);refine wpList_store_mid rfl 33 _ _ rfl g2 0 L.toArray rfl rfl (by rw [List.size_toArray,HLl.out,← HZl.out];exact TZ5.out) (by rw [List.size_toArray,HLl.out];exact info_ext') (all_oneCell_toArray HLo.out) ?_))
  have BR:=World.rangeAt_setCells_same w5 g2 0 L (by rw [HLl.out,← HZl.out];exact TZ5.out);have hres:=run_loadVar_mid (P:=Try.prog) (w5.setCells g2 0 L) g2 0 33 L _ BR Try.underlying33 rfl (by rw [HLl.out];exact info_ext');refine bodyPost_ret (v:= .agg L.toArray) (results_cell rfl _ rfl hres) rfl ?_
  exact ⟨by rw [HL.out,HY.out];rfl,below_setCells g2 s1 L 0 w5 HB5.out⟩)
set_option maxRecDepth 100000 in
set_option maxHeartbeats 16000000 in
theorem named_8 (x : Ext) (A : Option Addr) (c : Nat) (hk : x.kind = 8) (hx : x.sum.length = 32) (w : World) :
 Calls Try.prog 33 #[.agg (x.cells A c).toArray] w fun e w'=>e = .returned (.agg ({ ext0 8 x.who with rfd:=x.rfd }.cells none 0).toArray) ∧ Below w.heap.size w w':=by
 obtain ⟨X,hX⟩ : ∃ X,X = (x.cells A c).toArray:=⟨_,rfl⟩;obtain ⟨Z,hZ⟩ : ∃ Z,Z = (ext0 0 0).cells none 0:=⟨_,rfl⟩;obtain ⟨Y,hY⟩ : ∃ Y,Y = (ext0 8 x.who).cells none 0:=⟨_,rfl⟩
 have hZl : Z.length = 49:=by rw [hZ];rfl
 have hYl : Y.length = 49:=by rw [hY];rfl
 have hYo : ∀ v ∈ Y,v.oneCell' = true:=by rw [hY];exact Ext.cells_one _ _ _
 have hal : ∀ w,(zeroValue 33).run Try.prog w = .ok (.agg Z.toArray) w:=fun w=>by rw [hZ];exact zero_ext w
 have hbr : ∀ w,(Instr.build 33 #[(0,.int .i64 8),(1,.int .i64 x.who)]).run Try.prog w = .ok (.agg Y.toArray) w:=fun w=>run_build w _ _ _ (by rw [hY];exact built_ext 8 x.who);rw [← hX];have HX:=am hX;have HY:=am hY;have Hx:=am hx;have HZl:=am hZl;have HYl:=am hYl;have HYo:=am hYo;have HK:=am hk;clear hX hY hx hZ hZl hYl hYo hk;go_enter Try.func33,Try.ntmps33
 go_upto_region 1 with (first
  | ((with_reducible refine gate_dst (N:=1) rfl ?_);refine box_event ?hg (N:=1) ?hd (cs:=X) (t:=33) ?hr ?_;(case hd=>rfl);(case hg=>rfl);(case hr=>first | (go_simp;done) | (go_simp;rfl));intro g1 hg1 w1 hbox1 hb1;have BX1:=am (rangeAt_box (HX.out ▸ hbox1));have HXlt:=am (blk_lt hbox1);have HB1:=am hb1;clear hg1 hbox1 hb1)
  | ((with_reducible refine gate_dst (N:=2) rfl ?_);refine box_event ?hg (N:=2) ?hd (cs:=Z.toArray) (t:=33) ?hr ?_;(case hd=>rfl);(case hg=>rfl);(case hr=>first | (simp [execOp,Instr.alloc,hal,newVar,newRow,go_sem];done) | (simp [execOp,Instr.alloc,hal,newVar,newRow,go_sem];rfl));intro g2 hg2 w2 hbox2 hb2;have G2:=am hg2;have BZ2:=am (there_box hbox2);have HZlt:=am (blk_lt hbox2);have HB2:=am hb2;clear hg2 hbox2 hb2))
 obtain ⟨p0,p1,p2,p3,p4,p5,p6⟩:=x.at_head A c (rangeAt_below BX1.out HB2.out HXlt.out);rw [HK.out] at p0
 go_upto_region 2 with (first
  | ((with_reducible refine gate_dst (N:=8) rfl ?_);refine Kd.event_run (v:= .agg Y.toArray) (w1:=w2) rfl (by first | (simp [execOp,hbr,go_sem];done) | (simp [execOp,hbr,go_sem];rw [HY.out];rfl)) ?_)
  | ((with_reducible refine gate_dst (N:=3) rfl ?_);refine box_event ?hg (N:=3) ?hd (cs:=Z.toArray) (t:=33) ?hr ?_;(case hd=>rfl);(case hg=>rfl);(case hr=>first | (simp [execOp,Instr.alloc,hal,newVar,newRow,go_sem];done) | (simp [execOp,Instr.alloc,hal,newVar,newRow,go_sem];rfl));intro g3 hg3 w3 hbox3 hb3;have G3:=am hg3;have BZ3:=am (there_box hbox3);have HYlt:=am (blk_lt hbox3);have HB3:=am hb3;clear hg3 hbox3 hb3)
  | ((with_reducible refine gate_store (t:=33) (p:=3) rfl ?_);refine wpList_store_mid rfl 33 _ _ rfl g3 0 Y.toArray rfl rfl (by rw [List.size_toArray,HYl.out,← HZl.out];exact BZ3.out) (by rw [List.size_toArray,HYl.out];exact info_ext') (all_oneCell_toArray HYo.out) ?_))
 have ne13 : g1 ≠ g3:=by have:=G3.out;have:=HB2.out.size;have:=HXlt.out;omega
 have ne23 : g2 ≠ g3:=by have:=G3.out;have:=HZlt.out;omega
 have BX3:=rangeAt_below (rangeAt_below BX1.out HB2.out HXlt.out) HB3.out (by have:=HB2.out.size;have:=HXlt.out;omega);have BX4:=am (World.rangeAt_setCells_apart BX3 g3 0 Y (.inl ne13));have BY4:=am (World.rangeAt_setCells_same w3 g3 0 Y (by rw [HYl.out,← HZl.out];exact BZ3.out));have TY4:=am (World.there_setCells BZ3.out g3 0 Y);have TZ3 : w3.there g2 0 Z.length:=fun j hj=>⟨by rw [HB3.out.cell (p:=⟨g2,0 + j,none⟩) HZlt.out];exact (BZ2.out j hj).1,by rw [HB3.out.frozen (p:=⟨g2,0 + j,none⟩) HZlt.out];exact (BZ2.out j hj).2⟩;have TZ4:=am (World.there_setCells TZ3 g3 0 Y);have HB3a:=below_step (below_step HB1.out HB2.out) HB3.out;have HB4:=am (below_setCells g3 (by have:=G3.out;have:=(below_step HB1.out HB2.out).size;omega) Y 0 w3 HB3a)
 have s1 : w.heap.size ≤ g2:=by have:=G2.out;have:=HB1.out.size;omega
 have s2 : w.heap.size ≤ g3:=by have:=G3.out;have:=(below_step HB1.out HB2.out).size;omega
 clear BX3 TZ3 HB3a p0 p1 p2 p3 p4 p5 p6;generalize w3.setCells g3 0 Y = w4 at BX4 BY4 TY4 TZ4 HB4 ⊢;obtain ⟨p0,p1,p2,p3,p4,p5,p6⟩:=x.at_head A c BX4.out;rw [HK.out] at p0
 have c4 : w4.cell? ⟨g3,4,none⟩ = some (.int .i64 0):=by have:=BY4.out 4 (.int .i64 0) (by rw [HY.out];rfl);rw [Nat.zero_add] at this;exact this
 have f4 : w4.frozen? ⟨g3,4,none⟩ = false:=by have:=(TY4.out 4 (by rw [HZl.out];decide)).2;rw [Nat.zero_add] at this;exact this
 go_upto_region 22 with (fail)
 have TYs:=TY4.out;rw [HZl.out,← HYl.out] at TYs;have BY0_:=set_range BY4.out (by (try simp only [List.length_set]);exact TYs) 4 (by (try simp only [List.length_set]);rw [HYl.out];decide) (.int .i64 x.rfd);have TY0_:=there_setCell TYs g3 4 (.int .i64 x.rfd);have TZ0_:=there_setCell TZ4.out g3 4 (.int .i64 x.rfd);have HB0_:=HB4.out.setCell (p:=⟨g3,4,none⟩) s2 (.int .i64 x.rfd);obtain ⟨L,hL⟩ : ∃ L,L = (Y).set 4 (.int .i64 x.rfd):=⟨_,rfl⟩;rw [← hL] at BY0_;have HLl:=am (by rw [hL];simp only [List.length_set];exact HYl.out : L.length = 49)
 have HLo:=am (by
  rw [hL];intro v hv
  rcases List.mem_or_eq_of_mem_set hv with hv | rfl
  rotate_left
  ·rfl
  exact HYo.out v hv : ∀ v ∈ L,v.oneCell' = true)
 have HL:=am hL;have BY5:=am BY0_;have TZ5:=am TZ0_;have HB5:=am HB0_;generalize (w4).setCell ⟨g3,4,none⟩ (.int .i64 x.rfd) = w5 at BY5 TZ5 HB5 ⊢
 go_wp2_with (first
  | ((with_reducible refine gate_dst (N:=75) rfl ?_);refine wpList_load_mid rfl 33 _ rfl g3 0 rfl L _ BY5.out Try.underlying33 rfl (by rw [HLl.out];exact info_ext') ?_)
  | ((with_reducible refine gate_store (t:=33) (p:=2) rfl ?_);refine wpList_store_mid rfl 33 _ _ rfl g2 0 L.toArray rfl rfl (by rw [List.size_toArray,HLl.out,← HZl.out];exact TZ5.out) (by rw [List.size_toArray,HLl.out];exact info_ext') (all_oneCell_toArray HLo.out) ?_))
 have BR:=World.rangeAt_setCells_same w5 g2 0 L (by rw [HLl.out,← HZl.out];exact TZ5.out);have hres:=run_loadVar_mid (P:=Try.prog) (w5.setCells g2 0 L) g2 0 33 L _ BR Try.underlying33 rfl (by rw [HLl.out];exact info_ext');refine bodyPost_ret (v:= .agg L.toArray) (results_cell rfl _ rfl hres) rfl ?_;exact ⟨by rw [HL.out,HY.out];rfl,below_setCells g2 s1 L 0 w5 HB5.out⟩
set_option maxRecDepth 100000 in
set_option maxHeartbeats 16000000 in
theorem named_9 (x : Ext) (A : Option Addr) (c : Nat) (hk : x.kind = 9) (hx : x.sum.length = 32) (w : World) :
 Calls Try.prog 33 #[.agg (x.cells A c).toArray] w fun e w'=>e = .returned (.agg ({ ext0 9 x.who with track:=x.track,dest:=x.dest,level:=x.level,amt:=x.amt }.cells none 0).toArray) ∧ Below w.heap.size w w':=by
 obtain ⟨X,hX⟩ : ∃ X,X = (x.cells A c).toArray:=⟨_,rfl⟩;obtain ⟨Z,hZ⟩ : ∃ Z,Z = (ext0 0 0).cells none 0:=⟨_,rfl⟩;obtain ⟨Y,hY⟩ : ∃ Y,Y = (ext0 9 x.who).cells none 0:=⟨_,rfl⟩
 have hZl : Z.length = 49:=by rw [hZ];rfl
 have hYl : Y.length = 49:=by rw [hY];rfl
 have hYo : ∀ v ∈ Y,v.oneCell' = true:=by rw [hY];exact Ext.cells_one _ _ _
 have hal : ∀ w,(zeroValue 33).run Try.prog w = .ok (.agg Z.toArray) w:=fun w=>by rw [hZ];exact zero_ext w
 have hbr : ∀ w,(Instr.build 33 #[(0,.int .i64 9),(1,.int .i64 x.who)]).run Try.prog w = .ok (.agg Y.toArray) w:=fun w=>run_build w _ _ _ (by rw [hY];exact built_ext 9 x.who);rw [← hX];have HX:=am hX;have HY:=am hY;have Hx:=am hx;have HZl:=am hZl;have HYl:=am hYl;have HYo:=am hYo;have HK:=am hk;clear hX hY hx hZ hZl hYl hYo hk;go_enter Try.func33,Try.ntmps33
 go_upto_region 1 with (first
  | ((with_reducible refine gate_dst (N:=1) rfl ?_);refine box_event ?hg (N:=1) ?hd (cs:=X) (t:=33) ?hr ?_;(case hd=>rfl);(case hg=>rfl);(case hr=>first | (go_simp;done) | (go_simp;rfl));intro g1 hg1 w1 hbox1 hb1;have BX1:=am (rangeAt_box (HX.out ▸ hbox1));have HXlt:=am (blk_lt hbox1);have HB1:=am hb1;clear hg1 hbox1 hb1)
  | ((with_reducible refine gate_dst (N:=2) rfl ?_);refine box_event ?hg (N:=2) ?hd (cs:=Z.toArray) (t:=33) ?hr ?_;(case hd=>rfl);(case hg=>rfl);(case hr=>first | (simp [execOp,Instr.alloc,hal,newVar,newRow,go_sem];done) | (simp [execOp,Instr.alloc,hal,newVar,newRow,go_sem];rfl));intro g2 hg2 w2 hbox2 hb2;have G2:=am hg2;have BZ2:=am (there_box hbox2);have HZlt:=am (blk_lt hbox2);have HB2:=am hb2;clear hg2 hbox2 hb2))
 obtain ⟨p0,p1,p2,p3,p4,p5,p6⟩:=x.at_head A c (rangeAt_below BX1.out HB2.out HXlt.out);rw [HK.out] at p0
 go_upto_region 2 with (first
  | ((with_reducible refine gate_dst (N:=8) rfl ?_);refine Kd.event_run (v:= .agg Y.toArray) (w1:=w2) rfl (by first | (simp [execOp,hbr,go_sem];done) | (simp [execOp,hbr,go_sem];rw [HY.out];rfl)) ?_)
  | ((with_reducible refine gate_dst (N:=3) rfl ?_);refine box_event ?hg (N:=3) ?hd (cs:=Z.toArray) (t:=33) ?hr ?_;(case hd=>rfl);(case hg=>rfl);(case hr=>first | (simp [execOp,Instr.alloc,hal,newVar,newRow,go_sem];done) | (simp [execOp,Instr.alloc,hal,newVar,newRow,go_sem];rfl));intro g3 hg3 w3 hbox3 hb3;have G3:=am hg3;have BZ3:=am (there_box hbox3);have HYlt:=am (blk_lt hbox3);have HB3:=am hb3;clear hg3 hbox3 hb3)
  | ((with_reducible refine gate_store (t:=33) (p:=3) rfl ?_);refine wpList_store_mid rfl 33 _ _ rfl g3 0 Y.toArray rfl rfl (by rw [List.size_toArray,HYl.out,← HZl.out];exact BZ3.out) (by rw [List.size_toArray,HYl.out];exact info_ext') (all_oneCell_toArray HYo.out) ?_))
 have ne13 : g1 ≠ g3:=by have:=G3.out;have:=HB2.out.size;have:=HXlt.out;omega
 have ne23 : g2 ≠ g3:=by have:=G3.out;have:=HZlt.out;omega
 have BX3:=rangeAt_below (rangeAt_below BX1.out HB2.out HXlt.out) HB3.out (by have:=HB2.out.size;have:=HXlt.out;omega);have BX4:=am (World.rangeAt_setCells_apart BX3 g3 0 Y (.inl ne13));have BY4:=am (World.rangeAt_setCells_same w3 g3 0 Y (by rw [HYl.out,← HZl.out];exact BZ3.out));have TY4:=am (World.there_setCells BZ3.out g3 0 Y);have TZ3 : w3.there g2 0 Z.length:=fun j hj=>⟨by rw [HB3.out.cell (p:=⟨g2,0 + j,none⟩) HZlt.out];exact (BZ2.out j hj).1,by rw [HB3.out.frozen (p:=⟨g2,0 + j,none⟩) HZlt.out];exact (BZ2.out j hj).2⟩;have TZ4:=am (World.there_setCells TZ3 g3 0 Y);have HB3a:=below_step (below_step HB1.out HB2.out) HB3.out;have HB4:=am (below_setCells g3 (by have:=G3.out;have:=(below_step HB1.out HB2.out).size;omega) Y 0 w3 HB3a)
 have s1 : w.heap.size ≤ g2:=by have:=G2.out;have:=HB1.out.size;omega
 have s2 : w.heap.size ≤ g3:=by have:=G3.out;have:=(below_step HB1.out HB2.out).size;omega
 clear BX3 TZ3 HB3a p0 p1 p2 p3 p4 p5 p6;generalize w3.setCells g3 0 Y = w4 at BX4 BY4 TY4 TZ4 HB4 ⊢;obtain ⟨p0,p1,p2,p3,p4,p5,p6⟩:=x.at_head A c BX4.out;rw [HK.out] at p0
 have c5 : w4.cell? ⟨g3,5,none⟩ = some (.int .i64 0):=by have:=BY4.out 5 (.int .i64 0) (by rw [HY.out];rfl);rw [Nat.zero_add] at this;exact this
 have f5 : w4.frozen? ⟨g3,5,none⟩ = false:=by have:=(TY4.out 5 (by rw [HZl.out];decide)).2;rw [Nat.zero_add] at this;exact this
 have c2 : w4.cell? ⟨g3,2,none⟩ = some (.int .i64 0):=by have:=BY4.out 2 (.int .i64 0) (by rw [HY.out];rfl);rw [Nat.zero_add] at this;exact this
 have f2 : w4.frozen? ⟨g3,2,none⟩ = false:=by have:=(TY4.out 2 (by rw [HZl.out];decide)).2;rw [Nat.zero_add] at this;exact this
 have c6 : w4.cell? ⟨g3,6,none⟩ = some (.int .i64 0):=by have:=BY4.out 6 (.int .i64 0) (by rw [HY.out];rfl);rw [Nat.zero_add] at this;exact this
 have f6 : w4.frozen? ⟨g3,6,none⟩ = false:=by have:=(TY4.out 6 (by rw [HZl.out];decide)).2;rw [Nat.zero_add] at this;exact this
 have c3 : w4.cell? ⟨g3,3,none⟩ = some (.int .i64 0):=by have:=BY4.out 3 (.int .i64 0) (by rw [HY.out];rfl);rw [Nat.zero_add] at this;exact this
 have f3 : w4.frozen? ⟨g3,3,none⟩ = false:=by have:=(TY4.out 3 (by rw [HZl.out];decide)).2;rw [Nat.zero_add] at this;exact this
 go_upto_region 18 with (fail)
 have ne31 : g3 ≠ g1:=fun e=>ne13 e.symm
 go_region_held3 (fun w'=>w'.cell? ⟨g1,5,none⟩ = some (.int .i64 x.track) ∧ w'.cell? ⟨g1,2,none⟩ = some (.int .i64 x.dest) ∧ w'.cell? ⟨g1,6,none⟩ = some (.int .i64 x.level) ∧ w'.cell? ⟨g1,3,none⟩ = some (.int .i64 x.amt)) (go_keep) (fail)
 go_upto_region 22 with (fail)
 all_goals (
  have TYs:=TY4.out;rw [HZl.out,← HYl.out] at TYs;have BY0_:=set_range BY4.out (by (try simp only [List.length_set]);exact TYs) 5 (by (try simp only [List.length_set]);rw [HYl.out];decide) (.int .i64 x.track);have TY0_:=there_setCell TYs g3 5 (.int .i64 x.track);have TZ0_:=there_setCell TZ4.out g3 5 (.int .i64 x.track);have HB0_:=HB4.out.setCell (p:=⟨g3,5,none⟩) s2 (.int .i64 x.track);have BY1_:=set_range BY0_ (by (try simp only [List.length_set]);exact TY0_) 2 (by (try simp only [List.length_set]);rw [HYl.out];decide) (.int .i64 x.dest);have TY1_:=there_setCell TY0_ g3 2 (.int .i64 x.dest);have TZ1_:=there_setCell TZ0_ g3 2 (.int .i64 x.dest);have HB1_:=HB0_.setCell (p:=⟨g3,2,none⟩) s2 (.int .i64 x.dest);have BY2_:=set_range BY1_ (by (try simp only [List.length_set]);exact TY1_) 6 (by (try simp only [List.length_set]);rw [HYl.out];decide) (.int .i64 x.level);have TY2_:=there_setCell TY1_ g3 6 (.int .i64 x.level);have TZ2_:=there_setCell TZ1_ g3 6 (.int .i64 x.level);have HB2_:=HB1_.setCell (p:=⟨g3,6,none⟩) s2 (.int .i64 x.level);have BY3_:=set_range BY2_ (by (try simp only [List.length_set]);exact TY2_) 3 (by (try simp only [List.length_set]);rw [HYl.out];decide) (.int .i64 x.amt);have TY3_:=there_setCell TY2_ g3 3 (.int .i64 x.amt);have TZ3_:=there_setCell TZ2_ g3 3 (.int .i64 x.amt);have HB3_:=HB2_.setCell (p:=⟨g3,3,none⟩) s2 (.int .i64 x.amt);have BYd:=(World.rangeAt_drew _ g3 0 _).2 BY3_;have TZd:=(World.there_drew _ g2 0 Z.length).2 TZ3_;have HBd:=below_drew HB3_;obtain ⟨L,hL⟩ : ∃ L,L = ((((Y).set 5 (.int .i64 x.track)).set 2 (.int .i64 x.dest)).set 6 (.int .i64 x.level)).set 3 (.int .i64 x.amt):=⟨_,rfl⟩;rw [← hL] at BYd;have HLl:=am (by rw [hL];simp only [List.length_set];exact HYl.out : L.length = 49)
  have HLo:=am (by
   rw [hL];intro v hv
   rcases List.mem_or_eq_of_mem_set hv with hv | rfl
   rotate_left
   ·rfl
   rcases List.mem_or_eq_of_mem_set hv with hv | rfl
   rotate_left
   ·rfl
   rcases List.mem_or_eq_of_mem_set hv with hv | rfl
   rotate_left
   ·rfl
   rcases List.mem_or_eq_of_mem_set hv with hv | rfl
   rotate_left
   ·rfl
   exact HYo.out v hv : ∀ v ∈ L,v.oneCell' = true)
  have HL:=am hL;have BY5:=am BYd;have TZ5:=am TZd;have HB5:=am HBd;generalize (((((w4).setCell ⟨g3,5,none⟩ (.int .i64 x.track)).setCell ⟨g3,2,none⟩ (.int .i64 x.dest)).setCell ⟨g3,6,none⟩ (.int .i64 x.level)).setCell ⟨g3,3,none⟩ (.int .i64 x.amt)).drew = w5 at BY5 TZ5 HB5 ⊢
  go_wp2_with (first
   | ((with_reducible refine gate_dst (N:=75) rfl ?_);refine wpList_load_mid rfl 33 _ rfl g3 0 rfl L _ BY5.out Try.underlying33 rfl (by rw [HLl.out];exact info_ext') ?_)
   | ((with_reducible refine gate_store (t:=33) (p:=2) rfl ?_);refine wpList_store_mid rfl 33 _ _ rfl g2 0 L.toArray rfl rfl (by rw [List.size_toArray,HLl.out,← HZl.out];exact TZ5.out) (by rw [List.size_toArray,HLl.out];exact info_ext') (all_oneCell_toArray HLo.out) ?_))
  have BR:=World.rangeAt_setCells_same w5 g2 0 L (by rw [HLl.out,← HZl.out];exact TZ5.out);have hres:=run_loadVar_mid (P:=Try.prog) (w5.setCells g2 0 L) g2 0 33 L _ BR Try.underlying33 rfl (by rw [HLl.out];exact info_ext');refine bodyPost_ret (v:= .agg L.toArray) (results_cell rfl _ rfl hres) rfl ?_
  exact ⟨by rw [HL.out,HY.out];rfl,below_setCells g2 s1 L 0 w5 HB5.out⟩)
set_option maxRecDepth 100000 in
set_option maxHeartbeats 16000000 in
theorem named_10 (x : Ext) (A : Option Addr) (c : Nat) (hk : x.kind = 10) (hx : x.sum.length = 32) (w : World) :
 Calls Try.prog 33 #[.agg (x.cells A c).toArray] w fun e w'=>e = .returned (.agg ({ ext0 10 x.who with track:=x.track }.cells none 0).toArray) ∧ Below w.heap.size w w':=by
 obtain ⟨X,hX⟩ : ∃ X,X = (x.cells A c).toArray:=⟨_,rfl⟩;obtain ⟨Z,hZ⟩ : ∃ Z,Z = (ext0 0 0).cells none 0:=⟨_,rfl⟩;obtain ⟨Y,hY⟩ : ∃ Y,Y = (ext0 10 x.who).cells none 0:=⟨_,rfl⟩
 have hZl : Z.length = 49:=by rw [hZ];rfl
 have hYl : Y.length = 49:=by rw [hY];rfl
 have hYo : ∀ v ∈ Y,v.oneCell' = true:=by rw [hY];exact Ext.cells_one _ _ _
 have hal : ∀ w,(zeroValue 33).run Try.prog w = .ok (.agg Z.toArray) w:=fun w=>by rw [hZ];exact zero_ext w
 have hbr : ∀ w,(Instr.build 33 #[(0,.int .i64 10),(1,.int .i64 x.who)]).run Try.prog w = .ok (.agg Y.toArray) w:=fun w=>run_build w _ _ _ (by rw [hY];exact built_ext 10 x.who);rw [← hX];have HX:=am hX;have HY:=am hY;have Hx:=am hx;have HZl:=am hZl;have HYl:=am hYl;have HYo:=am hYo;have HK:=am hk;clear hX hY hx hZ hZl hYl hYo hk;go_enter Try.func33,Try.ntmps33
 go_upto_region 1 with (first
  | ((with_reducible refine gate_dst (N:=1) rfl ?_);refine box_event ?hg (N:=1) ?hd (cs:=X) (t:=33) ?hr ?_;(case hd=>rfl);(case hg=>rfl);(case hr=>first | (go_simp;done) | (go_simp;rfl));intro g1 hg1 w1 hbox1 hb1;have BX1:=am (rangeAt_box (HX.out ▸ hbox1));have HXlt:=am (blk_lt hbox1);have HB1:=am hb1;clear hg1 hbox1 hb1)
  | ((with_reducible refine gate_dst (N:=2) rfl ?_);refine box_event ?hg (N:=2) ?hd (cs:=Z.toArray) (t:=33) ?hr ?_;(case hd=>rfl);(case hg=>rfl);(case hr=>first | (simp [execOp,Instr.alloc,hal,newVar,newRow,go_sem];done) | (simp [execOp,Instr.alloc,hal,newVar,newRow,go_sem];rfl));intro g2 hg2 w2 hbox2 hb2;have G2:=am hg2;have BZ2:=am (there_box hbox2);have HZlt:=am (blk_lt hbox2);have HB2:=am hb2;clear hg2 hbox2 hb2))
 obtain ⟨p0,p1,p2,p3,p4,p5,p6⟩:=x.at_head A c (rangeAt_below BX1.out HB2.out HXlt.out);rw [HK.out] at p0
 go_upto_region 2 with (first
  | ((with_reducible refine gate_dst (N:=8) rfl ?_);refine Kd.event_run (v:= .agg Y.toArray) (w1:=w2) rfl (by first | (simp [execOp,hbr,go_sem];done) | (simp [execOp,hbr,go_sem];rw [HY.out];rfl)) ?_)
  | ((with_reducible refine gate_dst (N:=3) rfl ?_);refine box_event ?hg (N:=3) ?hd (cs:=Z.toArray) (t:=33) ?hr ?_;(case hd=>rfl);(case hg=>rfl);(case hr=>first | (simp [execOp,Instr.alloc,hal,newVar,newRow,go_sem];done) | (simp [execOp,Instr.alloc,hal,newVar,newRow,go_sem];rfl));intro g3 hg3 w3 hbox3 hb3;have G3:=am hg3;have BZ3:=am (there_box hbox3);have HYlt:=am (blk_lt hbox3);have HB3:=am hb3;clear hg3 hbox3 hb3)
  | ((with_reducible refine gate_store (t:=33) (p:=3) rfl ?_);refine wpList_store_mid rfl 33 _ _ rfl g3 0 Y.toArray rfl rfl (by rw [List.size_toArray,HYl.out,← HZl.out];exact BZ3.out) (by rw [List.size_toArray,HYl.out];exact info_ext') (all_oneCell_toArray HYo.out) ?_))
 have ne13 : g1 ≠ g3:=by have:=G3.out;have:=HB2.out.size;have:=HXlt.out;omega
 have ne23 : g2 ≠ g3:=by have:=G3.out;have:=HZlt.out;omega
 have BX3:=rangeAt_below (rangeAt_below BX1.out HB2.out HXlt.out) HB3.out (by have:=HB2.out.size;have:=HXlt.out;omega);have BX4:=am (World.rangeAt_setCells_apart BX3 g3 0 Y (.inl ne13));have BY4:=am (World.rangeAt_setCells_same w3 g3 0 Y (by rw [HYl.out,← HZl.out];exact BZ3.out));have TY4:=am (World.there_setCells BZ3.out g3 0 Y);have TZ3 : w3.there g2 0 Z.length:=fun j hj=>⟨by rw [HB3.out.cell (p:=⟨g2,0 + j,none⟩) HZlt.out];exact (BZ2.out j hj).1,by rw [HB3.out.frozen (p:=⟨g2,0 + j,none⟩) HZlt.out];exact (BZ2.out j hj).2⟩;have TZ4:=am (World.there_setCells TZ3 g3 0 Y);have HB3a:=below_step (below_step HB1.out HB2.out) HB3.out;have HB4:=am (below_setCells g3 (by have:=G3.out;have:=(below_step HB1.out HB2.out).size;omega) Y 0 w3 HB3a)
 have s1 : w.heap.size ≤ g2:=by have:=G2.out;have:=HB1.out.size;omega
 have s2 : w.heap.size ≤ g3:=by have:=G3.out;have:=(below_step HB1.out HB2.out).size;omega
 clear BX3 TZ3 HB3a p0 p1 p2 p3 p4 p5 p6;generalize w3.setCells g3 0 Y = w4 at BX4 BY4 TY4 TZ4 HB4 ⊢;obtain ⟨p0,p1,p2,p3,p4,p5,p6⟩:=x.at_head A c BX4.out;rw [HK.out] at p0
 have c5 : w4.cell? ⟨g3,5,none⟩ = some (.int .i64 0):=by have:=BY4.out 5 (.int .i64 0) (by rw [HY.out];rfl);rw [Nat.zero_add] at this;exact this
 have f5 : w4.frozen? ⟨g3,5,none⟩ = false:=by have:=(TY4.out 5 (by rw [HZl.out];decide)).2;rw [Nat.zero_add] at this;exact this
 go_upto_region 22 with (fail)
 have TYs:=TY4.out;rw [HZl.out,← HYl.out] at TYs;have BY0_:=set_range BY4.out (by (try simp only [List.length_set]);exact TYs) 5 (by (try simp only [List.length_set]);rw [HYl.out];decide) (.int .i64 x.track);have TY0_:=there_setCell TYs g3 5 (.int .i64 x.track);have TZ0_:=there_setCell TZ4.out g3 5 (.int .i64 x.track);have HB0_:=HB4.out.setCell (p:=⟨g3,5,none⟩) s2 (.int .i64 x.track);obtain ⟨L,hL⟩ : ∃ L,L = (Y).set 5 (.int .i64 x.track):=⟨_,rfl⟩;rw [← hL] at BY0_;have HLl:=am (by rw [hL];simp only [List.length_set];exact HYl.out : L.length = 49)
 have HLo:=am (by
  rw [hL];intro v hv
  rcases List.mem_or_eq_of_mem_set hv with hv | rfl
  rotate_left
  ·rfl
  exact HYo.out v hv : ∀ v ∈ L,v.oneCell' = true)
 have HL:=am hL;have BY5:=am BY0_;have TZ5:=am TZ0_;have HB5:=am HB0_;generalize (w4).setCell ⟨g3,5,none⟩ (.int .i64 x.track) = w5 at BY5 TZ5 HB5 ⊢
 go_wp2_with (first
  | ((with_reducible refine gate_dst (N:=75) rfl ?_);refine wpList_load_mid rfl 33 _ rfl g3 0 rfl L _ BY5.out Try.underlying33 rfl (by rw [HLl.out];exact info_ext') ?_)
  | ((with_reducible refine gate_store (t:=33) (p:=2) rfl ?_);refine wpList_store_mid rfl 33 _ _ rfl g2 0 L.toArray rfl rfl (by rw [List.size_toArray,HLl.out,← HZl.out];exact TZ5.out) (by rw [List.size_toArray,HLl.out];exact info_ext') (all_oneCell_toArray HLo.out) ?_))
 have BR:=World.rangeAt_setCells_same w5 g2 0 L (by rw [HLl.out,← HZl.out];exact TZ5.out);have hres:=run_loadVar_mid (P:=Try.prog) (w5.setCells g2 0 L) g2 0 33 L _ BR Try.underlying33 rfl (by rw [HLl.out];exact info_ext');refine bodyPost_ret (v:= .agg L.toArray) (results_cell rfl _ rfl hres) rfl ?_;exact ⟨by rw [HL.out,HY.out];rfl,below_setCells g2 s1 L 0 w5 HB5.out⟩
set_option maxRecDepth 100000 in
set_option maxHeartbeats 16000000 in
theorem named_11 (x : Ext) (A : Option Addr) (c : Nat) (hk : x.kind = 11) (hx : x.sum.length = 32) (w : World) :
 Calls Try.prog 33 #[.agg (x.cells A c).toArray] w fun e w'=>e = .returned (.agg ({ ext0 11 x.who with track:=x.track }.cells none 0).toArray) ∧ Below w.heap.size w w':=by
 obtain ⟨X,hX⟩ : ∃ X,X = (x.cells A c).toArray:=⟨_,rfl⟩;obtain ⟨Z,hZ⟩ : ∃ Z,Z = (ext0 0 0).cells none 0:=⟨_,rfl⟩;obtain ⟨Y,hY⟩ : ∃ Y,Y = (ext0 11 x.who).cells none 0:=⟨_,rfl⟩
 have hZl : Z.length = 49:=by rw [hZ];rfl
 have hYl : Y.length = 49:=by rw [hY];rfl
 have hYo : ∀ v ∈ Y,v.oneCell' = true:=by rw [hY];exact Ext.cells_one _ _ _
 have hal : ∀ w,(zeroValue 33).run Try.prog w = .ok (.agg Z.toArray) w:=fun w=>by rw [hZ];exact zero_ext w
 have hbr : ∀ w,(Instr.build 33 #[(0,.int .i64 11),(1,.int .i64 x.who)]).run Try.prog w = .ok (.agg Y.toArray) w:=fun w=>run_build w _ _ _ (by rw [hY];exact built_ext 11 x.who);rw [← hX];have HX:=am hX;have HY:=am hY;have Hx:=am hx;have HZl:=am hZl;have HYl:=am hYl;have HYo:=am hYo;have HK:=am hk;clear hX hY hx hZ hZl hYl hYo hk;go_enter Try.func33,Try.ntmps33
 go_upto_region 1 with (first
  | ((with_reducible refine gate_dst (N:=1) rfl ?_);refine box_event ?hg (N:=1) ?hd (cs:=X) (t:=33) ?hr ?_;(case hd=>rfl);(case hg=>rfl);(case hr=>first | (go_simp;done) | (go_simp;rfl));intro g1 hg1 w1 hbox1 hb1;have BX1:=am (rangeAt_box (HX.out ▸ hbox1));have HXlt:=am (blk_lt hbox1);have HB1:=am hb1;clear hg1 hbox1 hb1)
  | ((with_reducible refine gate_dst (N:=2) rfl ?_);refine box_event ?hg (N:=2) ?hd (cs:=Z.toArray) (t:=33) ?hr ?_;(case hd=>rfl);(case hg=>rfl);(case hr=>first | (simp [execOp,Instr.alloc,hal,newVar,newRow,go_sem];done) | (simp [execOp,Instr.alloc,hal,newVar,newRow,go_sem];rfl));intro g2 hg2 w2 hbox2 hb2;have G2:=am hg2;have BZ2:=am (there_box hbox2);have HZlt:=am (blk_lt hbox2);have HB2:=am hb2;clear hg2 hbox2 hb2))
 obtain ⟨p0,p1,p2,p3,p4,p5,p6⟩:=x.at_head A c (rangeAt_below BX1.out HB2.out HXlt.out);rw [HK.out] at p0
 go_upto_region 2 with (first
  | ((with_reducible refine gate_dst (N:=8) rfl ?_);refine Kd.event_run (v:= .agg Y.toArray) (w1:=w2) rfl (by first | (simp [execOp,hbr,go_sem];done) | (simp [execOp,hbr,go_sem];rw [HY.out];rfl)) ?_)
  | ((with_reducible refine gate_dst (N:=3) rfl ?_);refine box_event ?hg (N:=3) ?hd (cs:=Z.toArray) (t:=33) ?hr ?_;(case hd=>rfl);(case hg=>rfl);(case hr=>first | (simp [execOp,Instr.alloc,hal,newVar,newRow,go_sem];done) | (simp [execOp,Instr.alloc,hal,newVar,newRow,go_sem];rfl));intro g3 hg3 w3 hbox3 hb3;have G3:=am hg3;have BZ3:=am (there_box hbox3);have HYlt:=am (blk_lt hbox3);have HB3:=am hb3;clear hg3 hbox3 hb3)
  | ((with_reducible refine gate_store (t:=33) (p:=3) rfl ?_);refine wpList_store_mid rfl 33 _ _ rfl g3 0 Y.toArray rfl rfl (by rw [List.size_toArray,HYl.out,← HZl.out];exact BZ3.out) (by rw [List.size_toArray,HYl.out];exact info_ext') (all_oneCell_toArray HYo.out) ?_))
 have ne13 : g1 ≠ g3:=by have:=G3.out;have:=HB2.out.size;have:=HXlt.out;omega
 have ne23 : g2 ≠ g3:=by have:=G3.out;have:=HZlt.out;omega
 have BX3:=rangeAt_below (rangeAt_below BX1.out HB2.out HXlt.out) HB3.out (by have:=HB2.out.size;have:=HXlt.out;omega);have BX4:=am (World.rangeAt_setCells_apart BX3 g3 0 Y (.inl ne13));have BY4:=am (World.rangeAt_setCells_same w3 g3 0 Y (by rw [HYl.out,← HZl.out];exact BZ3.out));have TY4:=am (World.there_setCells BZ3.out g3 0 Y);have TZ3 : w3.there g2 0 Z.length:=fun j hj=>⟨by rw [HB3.out.cell (p:=⟨g2,0 + j,none⟩) HZlt.out];exact (BZ2.out j hj).1,by rw [HB3.out.frozen (p:=⟨g2,0 + j,none⟩) HZlt.out];exact (BZ2.out j hj).2⟩;have TZ4:=am (World.there_setCells TZ3 g3 0 Y);have HB3a:=below_step (below_step HB1.out HB2.out) HB3.out;have HB4:=am (below_setCells g3 (by have:=G3.out;have:=(below_step HB1.out HB2.out).size;omega) Y 0 w3 HB3a)
 have s1 : w.heap.size ≤ g2:=by have:=G2.out;have:=HB1.out.size;omega
 have s2 : w.heap.size ≤ g3:=by have:=G3.out;have:=(below_step HB1.out HB2.out).size;omega
 clear BX3 TZ3 HB3a p0 p1 p2 p3 p4 p5 p6;generalize w3.setCells g3 0 Y = w4 at BX4 BY4 TY4 TZ4 HB4 ⊢;obtain ⟨p0,p1,p2,p3,p4,p5,p6⟩:=x.at_head A c BX4.out;rw [HK.out] at p0
 have c5 : w4.cell? ⟨g3,5,none⟩ = some (.int .i64 0):=by have:=BY4.out 5 (.int .i64 0) (by rw [HY.out];rfl);rw [Nat.zero_add] at this;exact this
 have f5 : w4.frozen? ⟨g3,5,none⟩ = false:=by have:=(TY4.out 5 (by rw [HZl.out];decide)).2;rw [Nat.zero_add] at this;exact this
 go_upto_region 22 with (fail)
 have TYs:=TY4.out;rw [HZl.out,← HYl.out] at TYs;have BY0_:=set_range BY4.out (by (try simp only [List.length_set]);exact TYs) 5 (by (try simp only [List.length_set]);rw [HYl.out];decide) (.int .i64 x.track);have TY0_:=there_setCell TYs g3 5 (.int .i64 x.track);have TZ0_:=there_setCell TZ4.out g3 5 (.int .i64 x.track);have HB0_:=HB4.out.setCell (p:=⟨g3,5,none⟩) s2 (.int .i64 x.track);obtain ⟨L,hL⟩ : ∃ L,L = (Y).set 5 (.int .i64 x.track):=⟨_,rfl⟩;rw [← hL] at BY0_;have HLl:=am (by rw [hL];simp only [List.length_set];exact HYl.out : L.length = 49)
 have HLo:=am (by
  rw [hL];intro v hv
  rcases List.mem_or_eq_of_mem_set hv with hv | rfl
  rotate_left
  ·rfl
  exact HYo.out v hv : ∀ v ∈ L,v.oneCell' = true)
 have HL:=am hL;have BY5:=am BY0_;have TZ5:=am TZ0_;have HB5:=am HB0_;generalize (w4).setCell ⟨g3,5,none⟩ (.int .i64 x.track) = w5 at BY5 TZ5 HB5 ⊢
 go_wp2_with (first
  | ((with_reducible refine gate_dst (N:=75) rfl ?_);refine wpList_load_mid rfl 33 _ rfl g3 0 rfl L _ BY5.out Try.underlying33 rfl (by rw [HLl.out];exact info_ext') ?_)
  | ((with_reducible refine gate_store (t:=33) (p:=2) rfl ?_);refine wpList_store_mid rfl 33 _ _ rfl g2 0 L.toArray rfl rfl (by rw [List.size_toArray,HLl.out,← HZl.out];exact TZ5.out) (by rw [List.size_toArray,HLl.out];exact info_ext') (all_oneCell_toArray HLo.out) ?_))
 have BR:=World.rangeAt_setCells_same w5 g2 0 L (by rw [HLl.out,← HZl.out];exact TZ5.out);have hres:=run_loadVar_mid (P:=Try.prog) (w5.setCells g2 0 L) g2 0 33 L _ BR Try.underlying33 rfl (by rw [HLl.out];exact info_ext');refine bodyPost_ret (v:= .agg L.toArray) (results_cell rfl _ rfl hres) rfl ?_;exact ⟨by rw [HL.out,HY.out];rfl,below_setCells g2 s1 L 0 w5 HB5.out⟩
end Go.Proofs.Ytilckocpgififaa.G
/- code.IsExt's contract, joined; account 2's unlocking. -/
namespace Go.Proofs.Ytilckocpgififaa.G
open Go.Extern.Stop (cell)
open Go.RowKit Go.Proofs.YtilckocpgififaaW.PrintWords Go.Proofs.YtilckocpgififaaW.PrintLast Go.Proofs.YtilckocpgififaaW.PrintMore
set_option linter.unusedVariables false
set_option linter.unusedSimpArgs false
theorem isExt_calls (x : Ext) (A : Option Addr) (c : Nat) (w : World) (hx : x.sum.length = 32) (hC : Kd.C k25 w A x.call.f3.length x.call.f3) (hc : x.call.f3.length ≤ c)
 (N : Array Value) (same : Bool) (hN : ∀ w,Calls Try.prog 33 #[.agg (x.cells A c).toArray] w fun e w'=>e = .returned (.agg N) ∧ Below w.heap.size w w')
 (hS : ∀ w1,Below w.heap.size w w1 → Calls Try.prog 24 #[.agg N,.agg (x.cells A c).toArray] w1 fun e w'=>e = .returned (.bool same) ∧ Below w1.heap.size w1 w')
 (kv : Nat) (vr : Bool) (hv : conv_Is.f kv x.vkind x.vaye x.vlevel x.va x.vn x.vs = some vr) :
 Calls Try.prog 14 #[.agg (x.cells A c).toArray] w fun e w'=>e = .returned (.bool (okE x same vr (okC 3 x.call.f0 x.call.f1 x.call.f2 x.call.f3))) ∧ Below w.heap.size w w':=by
 by_cases h : x.kind = 4
 rotate_left
 ·exact isExt_other x A c w hx hC hc N same hN hS h kv vr hv
 exact isExt_submit x A c w hx hC hc N same hN hS h kv vr hv
theorem isExt_of (x nx : Ext) (A A' : Option Addr) (c c' : Nat) (w : World) (hx : x.sum.length = 32) (hn : nx.sum.length = 32) (hC : Kd.C k25 w A x.call.f3.length x.call.f3) (hc : x.call.f3.length ≤ c)
 (hC' : Kd.C k25 w A' nx.call.f3.length nx.call.f3) (hc' : nx.call.f3.length ≤ c')
 (hN : ∀ w,Calls Try.prog 33 #[.agg (x.cells A c).toArray] w fun e w'=>e = .returned (.agg (nx.cells A' c').toArray) ∧ Below w.heap.size w w')
 (f : Nat) (sc : Bool) (hs : sameF f nx.call x.call = some sc) (kv : Nat) (vr : Bool) (hv : conv_Is.f kv x.vkind x.vaye x.vlevel x.va x.vn x.vs = some vr) :
 Calls Try.prog 14 #[.agg (x.cells A c).toArray] w fun e w'=>e = .returned (.bool (okE x (sc && sameX nx x) vr (okC 3 x.call.f0 x.call.f1 x.call.f2 x.call.f3))) ∧ Below w.heap.size w w':=
 isExt_calls x A c w hx hC hc _ _ hN (fun w1 hb=>code_SameExt.calls f nx x A' A c' c sc w1 hn hx (Kd.C_below hC' hb) hc' (Kd.C_below hC hb) hc hs) kv vr hv
theorem zsum_length : zSum.length = 32:=List.length_replicate
def x0 : Ext:=ext0 11 2
theorem vote0 : conv_Is.f 40 0 false 0 0 0 0 = some false:=by decide +kernel
theorem isExt_unlock (w : World) : Calls Try.prog 14 #[.agg (x0.cells none 0).toArray] w fun e w'=>e = .returned (.bool true) ∧ Below w.heap.size w w':=by
 have h:=isExt_of x0 x0 none none 0 0 w zsum_length zsum_length (Kd.C_nil _ _) (Nat.le_refl _) (Kd.C_nil _ _) (Nat.le_refl _) (named_11 x0 none 0 rfl zsum_length) 1 true rfl 40 false vote0
 have e : okE x0 (true && sameX x0 x0) false (okC 3 0 0 0 []) = true:=by decide
 have e' : okE x0 (true && sameX x0 x0) false (okC 3 x0.call.f0 x0.call.f1 x0.call.f2 x0.call.f3) = true:=e;rw [e'] at h;exact h
end Go.Proofs.Ytilckocpgififaa.G
