/- code.IsExt's contract, other (laid by mkisext2.py). -/
import Derived.Test.YtilckocpgififaaDoorScHStep
import Derived.Test.YtilckocpgififaaDoorScHIsExtA
import Derived.Deep.RegionHeld3
namespace Go.Proofs.YtilckocpgififaaDoor.G
open Go.Extern.Stop (cell)
open Go.RowKit Go.Proofs.YtilckocpgififaaDoorW.PrintWords Go.Proofs.YtilckocpgififaaDoorW.PrintLast Go.Proofs.YtilckocpgififaaDoorW.PrintMore
set_option linter.unusedVariables false
set_option linter.unusedSimpArgs false
set_option maxRecDepth 100000 in
set_option maxHeartbeats 64000000 in
theorem isExt_other (x : Ext) (A : Option Addr) (c : Nat) (w : World) (hx : x.sum.length = 32) (hC : Kd.C k24 w A x.call.f3.length x.call.f3) (hc : x.call.f3.length ≤ c)
 (N : Array Value) (same : Bool) (hN : ∀ w,Calls Tryd.prog 35 #[.agg (x.cells A c).toArray] w fun e w'=>e = .returned (.agg N) ∧ Below w.heap.size w w')
 (hS : ∀ w1,Below w.heap.size w w1 → Calls Tryd.prog 34 #[.agg N,.agg (x.cells A c).toArray] w1 fun e w'=>e = .returned (.bool same) ∧ Below w1.heap.size w1 w')
 (hk4 : ¬ x.kind = 4) (kv : Nat) (vr : Bool) (hv : conv_Is.f kv x.vkind x.vaye x.vlevel x.va x.vn x.vs = some vr) :
 Calls Tryd.prog 21 #[.agg (x.cells A c).toArray] w fun e w'=>e = .returned (.bool (okE x same vr (okC 3 x.call.f0 x.call.f1 x.call.f2 x.call.f3))) ∧ Below w.heap.size w w':=by
 obtain ⟨L,hL⟩ : ∃ L,L = x.cells A c:=⟨_,rfl⟩;obtain ⟨M,hM⟩ : ∃ M : Int,M = if x.kind = 4 then 1000 else 1073741824:=⟨_,rfl⟩;obtain ⟨cr,hcr⟩ : ∃ b,okC 3 x.call.f0 x.call.f1 x.call.f2 x.call.f3 = b:=⟨_,rfl⟩;have ECR:=am (show code_IsCall.f x.call.f0 x.call.f1 x.call.f2 x.call.f3 = some cr by simp [code_IsCall.f,code_isCall.f,hcr]);rw [hcr];rw [← hL] at hN hS ⊢;have HIE:=am (show (Tryd.prog.info? 51).map (·.size) = some L.length by rw [hL,Ext.cells_length _ _ _ hx];exact info_ext');have HL:=am hL;have HC:=am hC;have Hc:=am hc;have Hx:=am hx;have HN:=am hN;have HSm:=am hS;have HV:=am hv;have HM:=am hM;clear hL hC hc hx hN hS hv hM hcr;obtain ⟨b1,e1⟩ : ∃ b,inB x.kind 1 11 = b:=⟨_,rfl⟩;obtain ⟨b3,e3⟩ : ∃ b,inB x.who 0 9 = b:=⟨_,rfl⟩;obtain ⟨b4,e4⟩ : ∃ b,inB x.dest 0 9 = b:=⟨_,rfl⟩;obtain ⟨b5,e5⟩ : ∃ b,inB x.amt 0 M = b:=⟨_,rfl⟩;obtain ⟨b6,e6⟩ : ∃ b,inB x.rfd 0 11 = b:=⟨_,rfl⟩;obtain ⟨b7,e7⟩ : ∃ b,inB x.track 0 3 = b:=⟨_,rfl⟩;obtain ⟨b8,e8⟩ : ∃ b,inB x.level 0 6 = b:=⟨_,rfl⟩;have E1:=am (e1 ▸ isIn_f x.kind 1 11);have E3:=am (e3 ▸ isAccount_f x.who);have E4:=am (e4 ▸ isAccount_f x.dest);have E5:=am (e5 ▸ isIn_f x.amt 0 M);have E6:=am (e6 ▸ isIn_f x.rfd 0 11);have E7:=am (e7 ▸ isIn_f x.track 0 3);have E8:=am (e8 ▸ isIn_f x.level 0 6);go_enter Tryd.func21,Tryd.ntmps21
 go_upto_region 2 with (first
  | ((with_reducible refine gate_dst (N:=1) rfl ?_);refine box_event ?hg (N:=1) ?hd (cs:=L.toArray) (t:=51) ?hr ?_;(case hd=>rfl);(case hg=>rfl);(case hr=>first | (go_simp;done) | (go_simp;rfl));intro g1 hg1 w1 hbox1 hb1;have BX1:=am (rangeAt_boxN hbox1);have HXlt:=am (blk_lt hbox1);have HB1:=am hb1;clear hg1 hbox1 hb1))
 have HCA:=am (fun (w' : World) (h : w'.rangeAt g1 0 L)=>x.at_head A c (HL.out ▸ h));have HCV:=am (fun (w' : World) (h : w'.rangeAt g1 0 L)=>x.at_vote A c Hx.out (HL.out ▸ h));have HCC:=am (fun (w' : World) (h : w'.rangeAt g1 0 L)=>x.at_call A c Hx.out (HL.out ▸ h));have HC0:=am (fun (w' : World) (h : w'.rangeAt g1 0 L)=>(HCA.out w' h).1);have HC1:=am (fun (w' : World) (h : w'.rangeAt g1 0 L)=>(HCA.out w' h).2.1);have HC2:=am (fun (w' : World) (h : w'.rangeAt g1 0 L)=>(HCA.out w' h).2.2.1);have HC3:=am (fun (w' : World) (h : w'.rangeAt g1 0 L)=>(HCA.out w' h).2.2.2.1);have HC4:=am (fun (w' : World) (h : w'.rangeAt g1 0 L)=>(HCA.out w' h).2.2.2.2.1);have HC5:=am (fun (w' : World) (h : w'.rangeAt g1 0 L)=>(HCA.out w' h).2.2.2.2.2.1);have HC6:=am (fun (w' : World) (h : w'.rangeAt g1 0 L)=>(HCA.out w' h).2.2.2.2.2.2);have hR0:=BX1.out;have hT0:=HB1.out;have hZ0:=HXlt.out;have p0:=HC0.out w1 hR0;have hM:=HM.out;rw [if_neg hk4] at hM;subst hM;have dk4 : decide (x.kind = 4) = false:=decide_eq_false hk4
 go_upto_region 4 with (fail)
 clear p0;have HK4:=am hk4;clear hk4 dk4;refine start_ (n:=61) (S:=fun w'=>w'.rangeAt g1 0 L) (ds:=[]) (bl 61 0) (by kernel_rfl) rfl rfl ((World.rangeAt_drew w1 g1 0 L).2 hR0) (fun hHeld=>?_);refine with_tabW isExtR.tab isExtR.bits (fun HT_ HW_=>?_);replace hR0 : w1.drew.rangeAt g1 0 L:=hHeld;replace hT0 : Below w.heap.size w w1.drew:=below_drew hT0;replace hZ0 : g1 < w1.drew.heap.size:=hZ0;generalize w1.drew = wq at hR0 hT0 hZ0 hHeld ⊢;refine p_ HT_ 0 (some 7) isExtR.l0 ?_;refine tk HT_ HW_ hHeld 1 (some 8) isExtR.l1 (hr:=by intro w' hs_;have c_:=HC0.out w' hs_;go_simp;with_reducible rfl) (h:=?_)
 cases b1 with
 | false=>
   refine o_ HT_ 2 (some 9) isExtR.l2 fun K hK=>?_;refine gs Tryd.func33 #[.int .i64 x.kind,.int .i64 1,.int .i64 11] ?_;refine (code_isIn.calls x.kind 1 11 false _ E1.out).mono ?_;rintro e w5 ⟨rfl,hd5⟩;have hB5:=hd5.below;clear hd5;refine ⟨_,rfl,?_⟩;replace hR0:=rangeAt_belowN hR0 hB5 hZ0;replace hT0:=below_step hT0 hB5;replace hZ0:=Nat.lt_of_lt_of_le hZ0 hB5.size;clear hB5;refine hK.out _ _ hR0 (fun hHeld=>?_);clear hK K;refine nm (some 9) ?_;refine p_ HT_ 3 (some 10) isExtR.l3 ?_;refine f_ HT_ 4 (some 11) isExtR.l4 ?_;refine f_ HT_ 5 (some 12) isExtR.l5 ?_;refine f_ HT_ 6 (some 13) isExtR.l6 ?_;refine f_ HT_ 7 (some 14) isExtR.l7 ?_;refine p_ HT_ 8 (some 15) isExtR.l8 ?_;refine p_ HT_ 9 (some 16) isExtR.l9 ?_;refine f_ HT_ 10 (some 17) isExtR.l10 ?_;refine f_ HT_ 11 (some 18) isExtR.l11 ?_;refine f_ HT_ 12 (some 19) isExtR.l12 ?_;refine p_ HT_ 13 (some 20) isExtR.l13 ?_;refine p_ HT_ 14 (some 21) isExtR.l14 ?_;refine f_ HT_ 15 (some 22) isExtR.l15 ?_;refine f_ HT_ 16 (some 23) isExtR.l16 ?_;refine f_ HT_ 17 (some 24) isExtR.l17 ?_;refine p_ HT_ 18 (some 25) isExtR.l18 ?_;refine p_ HT_ 19 (some 26) isExtR.l19 ?_;refine f_ HT_ 20 (some 27) isExtR.l20 ?_;refine f_ HT_ 21 (some 28) isExtR.l21 ?_;refine f_ HT_ 22 (some 29) isExtR.l22 ?_;refine f_ HT_ 23 (some 30) isExtR.l23 ?_;refine p_ HT_ 24 (some 31) isExtR.l24 ?_;refine p_ HT_ 25 (some 32) isExtR.l25 ?_;refine f_ HT_ 26 (some 33) isExtR.l26 ?_;refine f_ HT_ 27 (some 34) isExtR.l27 ?_;refine f_ HT_ 28 (some 35) isExtR.l28 ?_;refine p_ HT_ 29 (some 36) isExtR.l29 ?_;refine p_ HT_ 30 (some 37) isExtR.l30 ?_;refine f_ HT_ 31 (some 38) isExtR.l31 ?_;refine f_ HT_ 32 (some 39) isExtR.l32 ?_;refine f_ HT_ 33 (some 40) isExtR.l33 ?_;refine p_ HT_ 34 (some 41) isExtR.l34 ?_;refine p_ HT_ 35 (some 42) isExtR.l35 ?_;refine f_ HT_ 36 (some 43) isExtR.l36 ?_;refine f_ HT_ 37 (some 44) isExtR.l37 ?_;refine f_ HT_ 38 (some 45) isExtR.l38 ?_;refine p_ HT_ 39 (some 46) isExtR.l39 ?_;refine p_ HT_ 40 (some 47) isExtR.l40 ?_;refine f_ HT_ 41 (some 48) isExtR.l41 ?_;refine f_ HT_ 42 (some 49) isExtR.l42 ?_;refine f_ HT_ 43 (some 50) isExtR.l43 ?_;refine f_ HT_ 44 (some 51) isExtR.l44 ?_;refine f_ HT_ 45 (some 52) isExtR.l45 ?_;refine f_ HT_ 46 (some 53) isExtR.l46 ?_;refine f_ HT_ 47 (some 54) isExtR.l47 ?_;refine f_ HT_ 48 (some 55) isExtR.l48 ?_;refine p_ HT_ 49 (some 56) isExtR.l49 ?_;refine p_ HT_ 50 (some 57) isExtR.l50 ?_;refine f_ HT_ 51 (some 58) isExtR.l51 ?_;refine f_ HT_ 52 (some 59) isExtR.l52 ?_;refine f_ HT_ 53 (some 60) isExtR.l53 ?_;refine f_ HT_ 54 (some 61) isExtR.l54 ?_;refine f_ HT_ 55 (some 62) isExtR.l55 ?_;refine f_ HT_ 56 (some 63) isExtR.l56 ?_;refine f_ HT_ 57 (some 64) isExtR.l57 ?_;refine f_ HT_ 58 (some 65) isExtR.l58 ?_;refine p_ HT_ 59 (some 66) isExtR.l59 ?_;refine p_ HT_ 60 (some 2) isExtR.l60 ?_;refine done_ (done_of HT_.out (by kernel_rfl)) ?_
   go_wp2
   go_ret
   have hk4:=HK4.out
   try rw [hk4] at e1
   try rw [k7] at e1
   try rw [k2] at e1
   exact ⟨by simp [okE, *],hT0⟩
 | true=>
   refine o_ HT_ 2 (some 9) isExtR.l2 fun K hK=>?_;refine gs Tryd.func33 #[.int .i64 x.kind,.int .i64 1,.int .i64 11] ?_;refine (code_isIn.calls x.kind 1 11 true _ E1.out).mono ?_;rintro e w5 ⟨rfl,hd5⟩;have hB5:=hd5.below;clear hd5;refine ⟨_,rfl,?_⟩;replace hR0:=rangeAt_belowN hR0 hB5 hZ0;replace hT0:=below_step hT0 hB5;replace hZ0:=Nat.lt_of_lt_of_le hZ0 hB5.size;clear hB5;refine hK.out _ _ hR0 (fun hHeld=>?_);clear hK K;refine nm (some 9) ?_;refine p_ HT_ 3 (some 10) isExtR.l3 ?_;refine tk HT_ HW_ hHeld 4 (some 11) isExtR.l4 (hr:=by intro w' hs_;refine load_runN (ty:=51) (y:= .tmp 1) (g:=g1) (L:=L) ?_ ?_ hs_ Tryd.underlying51 rfl HIE.out <;> rfl) (h:=?_);refine tk HT_ HW_ hHeld 6 (some 13) isExtR.l61 (hr:=by intro w' hs_;refine load_runN (ty:=51) (y:= .tmp 1) (g:=g1) (L:=L) ?_ ?_ hs_ Tryd.underlying51 rfl HIE.out <;> rfl) (h:=?_);refine o_ HT_ 5 (some 12) isExtR.l6 fun K hK=>?_;refine gs Tryd.func35 #[.agg L.toArray] ?_;refine (HN.out _).mono ?_;rintro e w5 ⟨rfl,hB5⟩;refine ⟨_,rfl,?_⟩;replace hR0:=rangeAt_belowN hR0 hB5 hZ0;replace hT0:=below_step hT0 hB5;replace hZ0:=Nat.lt_of_lt_of_le hZ0 hB5.size;clear hB5;refine hK.out _ _ hR0 (fun hHeld=>?_);clear hK K;refine nm (some 12) ?_
   cases same with
   | false=>
     refine o_ HT_ 7 (some 14) isExtR.l7 fun K hK=>?_;refine gs Tryd.func34 #[.agg N,.agg L.toArray] ?_;refine (HSm.out _ hT0).mono ?_;rintro e w5 ⟨rfl,hB5⟩;refine ⟨_,rfl,?_⟩;replace hR0:=rangeAt_belowN hR0 hB5 hZ0;replace hT0:=below_step hT0 hB5;replace hZ0:=Nat.lt_of_lt_of_le hZ0 hB5.size;clear hB5;refine hK.out _ _ hR0 (fun hHeld=>?_);clear hK K;refine nm (some 14) ?_;refine p_ HT_ 8 (some 15) isExtR.l8 ?_;refine p_ HT_ 9 (some 16) isExtR.l9 ?_;refine f_ HT_ 10 (some 17) isExtR.l10 ?_;refine f_ HT_ 11 (some 18) isExtR.l11 ?_;refine f_ HT_ 12 (some 19) isExtR.l12 ?_;refine p_ HT_ 13 (some 20) isExtR.l13 ?_;refine p_ HT_ 14 (some 21) isExtR.l14 ?_;refine f_ HT_ 15 (some 22) isExtR.l15 ?_;refine f_ HT_ 16 (some 23) isExtR.l16 ?_;refine f_ HT_ 17 (some 24) isExtR.l17 ?_;refine p_ HT_ 18 (some 25) isExtR.l18 ?_;refine p_ HT_ 19 (some 26) isExtR.l19 ?_;refine f_ HT_ 20 (some 27) isExtR.l20 ?_;refine f_ HT_ 21 (some 28) isExtR.l21 ?_;refine f_ HT_ 22 (some 29) isExtR.l22 ?_;refine f_ HT_ 23 (some 30) isExtR.l23 ?_;refine p_ HT_ 24 (some 31) isExtR.l24 ?_;refine p_ HT_ 25 (some 32) isExtR.l25 ?_;refine f_ HT_ 26 (some 33) isExtR.l26 ?_;refine f_ HT_ 27 (some 34) isExtR.l27 ?_;refine f_ HT_ 28 (some 35) isExtR.l28 ?_;refine p_ HT_ 29 (some 36) isExtR.l29 ?_;refine p_ HT_ 30 (some 37) isExtR.l30 ?_;refine f_ HT_ 31 (some 38) isExtR.l31 ?_;refine f_ HT_ 32 (some 39) isExtR.l32 ?_;refine f_ HT_ 33 (some 40) isExtR.l33 ?_;refine p_ HT_ 34 (some 41) isExtR.l34 ?_;refine p_ HT_ 35 (some 42) isExtR.l35 ?_;refine f_ HT_ 36 (some 43) isExtR.l36 ?_;refine f_ HT_ 37 (some 44) isExtR.l37 ?_;refine f_ HT_ 38 (some 45) isExtR.l38 ?_;refine p_ HT_ 39 (some 46) isExtR.l39 ?_;refine p_ HT_ 40 (some 47) isExtR.l40 ?_;refine f_ HT_ 41 (some 48) isExtR.l41 ?_;refine f_ HT_ 42 (some 49) isExtR.l42 ?_;refine f_ HT_ 43 (some 50) isExtR.l43 ?_;refine f_ HT_ 44 (some 51) isExtR.l44 ?_;refine f_ HT_ 45 (some 52) isExtR.l45 ?_;refine f_ HT_ 46 (some 53) isExtR.l46 ?_;refine f_ HT_ 47 (some 54) isExtR.l47 ?_;refine f_ HT_ 48 (some 55) isExtR.l48 ?_;refine p_ HT_ 49 (some 56) isExtR.l49 ?_;refine p_ HT_ 50 (some 57) isExtR.l50 ?_;refine f_ HT_ 51 (some 58) isExtR.l51 ?_;refine f_ HT_ 52 (some 59) isExtR.l52 ?_;refine f_ HT_ 53 (some 60) isExtR.l53 ?_;refine f_ HT_ 54 (some 61) isExtR.l54 ?_;refine f_ HT_ 55 (some 62) isExtR.l55 ?_;refine f_ HT_ 56 (some 63) isExtR.l56 ?_;refine f_ HT_ 57 (some 64) isExtR.l57 ?_;refine f_ HT_ 58 (some 65) isExtR.l58 ?_;refine p_ HT_ 59 (some 66) isExtR.l59 ?_;refine p_ HT_ 60 (some 2) isExtR.l60 ?_;refine done_ (done_of HT_.out (by kernel_rfl)) ?_
     go_wp2
     go_ret
     have hk4:=HK4.out
     try rw [hk4] at e1
     try rw [k7] at e1
     try rw [k2] at e1
     exact ⟨by simp [okE, *],hT0⟩
   | true=>
     refine o_ HT_ 7 (some 14) isExtR.l7 fun K hK=>?_;refine gs Tryd.func34 #[.agg N,.agg L.toArray] ?_;refine (HSm.out _ hT0).mono ?_;rintro e w5 ⟨rfl,hB5⟩;refine ⟨_,rfl,?_⟩;replace hR0:=rangeAt_belowN hR0 hB5 hZ0;replace hT0:=below_step hT0 hB5;replace hZ0:=Nat.lt_of_lt_of_le hZ0 hB5.size;clear hB5;refine hK.out _ _ hR0 (fun hHeld=>?_);clear hK K;refine nm (some 14) ?_;refine p_ HT_ 8 (some 15) isExtR.l8 ?_;refine p_ HT_ 9 (some 16) isExtR.l9 ?_;refine p_ HT_ 10 (some 17) isExtR.l10 ?_;refine tk HT_ HW_ hHeld 11 (some 18) isExtR.l11 (hr:=by intro w' hs_;have c_:=HC1.out w' hs_;go_simp;with_reducible rfl) (h:=?_)
     cases b3 with
     | false=>
       refine o_ HT_ 12 (some 19) isExtR.l12 fun K hK=>?_;refine gs Tryd.func36 #[.int .i64 x.who] ?_;refine (code_isAccount.calls x.who false _ E3.out).mono ?_;rintro e w5 ⟨rfl,hd5⟩;have hB5:=hd5.below;clear hd5;refine ⟨_,rfl,?_⟩;replace hR0:=rangeAt_belowN hR0 hB5 hZ0;replace hT0:=below_step hT0 hB5;replace hZ0:=Nat.lt_of_lt_of_le hZ0 hB5.size;clear hB5;refine hK.out _ _ hR0 (fun hHeld=>?_);clear hK K;refine nm (some 19) ?_;refine p_ HT_ 13 (some 20) isExtR.l13 ?_;refine p_ HT_ 14 (some 21) isExtR.l14 ?_;refine f_ HT_ 15 (some 22) isExtR.l15 ?_;refine f_ HT_ 16 (some 23) isExtR.l16 ?_;refine f_ HT_ 17 (some 24) isExtR.l17 ?_;refine p_ HT_ 18 (some 25) isExtR.l18 ?_;refine p_ HT_ 19 (some 26) isExtR.l19 ?_;refine f_ HT_ 20 (some 27) isExtR.l20 ?_;refine f_ HT_ 21 (some 28) isExtR.l21 ?_;refine f_ HT_ 22 (some 29) isExtR.l22 ?_;refine f_ HT_ 23 (some 30) isExtR.l23 ?_;refine p_ HT_ 24 (some 31) isExtR.l24 ?_;refine p_ HT_ 25 (some 32) isExtR.l25 ?_;refine f_ HT_ 26 (some 33) isExtR.l26 ?_;refine f_ HT_ 27 (some 34) isExtR.l27 ?_;refine f_ HT_ 28 (some 35) isExtR.l28 ?_;refine p_ HT_ 29 (some 36) isExtR.l29 ?_;refine p_ HT_ 30 (some 37) isExtR.l30 ?_;refine f_ HT_ 31 (some 38) isExtR.l31 ?_;refine f_ HT_ 32 (some 39) isExtR.l32 ?_;refine f_ HT_ 33 (some 40) isExtR.l33 ?_;refine p_ HT_ 34 (some 41) isExtR.l34 ?_;refine p_ HT_ 35 (some 42) isExtR.l35 ?_;refine f_ HT_ 36 (some 43) isExtR.l36 ?_;refine f_ HT_ 37 (some 44) isExtR.l37 ?_;refine f_ HT_ 38 (some 45) isExtR.l38 ?_;refine p_ HT_ 39 (some 46) isExtR.l39 ?_;refine p_ HT_ 40 (some 47) isExtR.l40 ?_;refine f_ HT_ 41 (some 48) isExtR.l41 ?_;refine f_ HT_ 42 (some 49) isExtR.l42 ?_;refine f_ HT_ 43 (some 50) isExtR.l43 ?_;refine f_ HT_ 44 (some 51) isExtR.l44 ?_;refine f_ HT_ 45 (some 52) isExtR.l45 ?_;refine f_ HT_ 46 (some 53) isExtR.l46 ?_;refine f_ HT_ 47 (some 54) isExtR.l47 ?_;refine f_ HT_ 48 (some 55) isExtR.l48 ?_;refine p_ HT_ 49 (some 56) isExtR.l49 ?_;refine p_ HT_ 50 (some 57) isExtR.l50 ?_;refine f_ HT_ 51 (some 58) isExtR.l51 ?_;refine f_ HT_ 52 (some 59) isExtR.l52 ?_;refine f_ HT_ 53 (some 60) isExtR.l53 ?_;refine f_ HT_ 54 (some 61) isExtR.l54 ?_;refine f_ HT_ 55 (some 62) isExtR.l55 ?_;refine f_ HT_ 56 (some 63) isExtR.l56 ?_;refine f_ HT_ 57 (some 64) isExtR.l57 ?_;refine f_ HT_ 58 (some 65) isExtR.l58 ?_;refine p_ HT_ 59 (some 66) isExtR.l59 ?_;refine p_ HT_ 60 (some 2) isExtR.l60 ?_;refine done_ (done_of HT_.out (by kernel_rfl)) ?_
       go_wp2
       go_ret
       have hk4:=HK4.out
       try rw [hk4] at e1
       try rw [k7] at e1
       try rw [k2] at e1
       exact ⟨by simp [okE, *],hT0⟩
     | true=>
       refine o_ HT_ 12 (some 19) isExtR.l12 fun K hK=>?_;refine gs Tryd.func36 #[.int .i64 x.who] ?_;refine (code_isAccount.calls x.who true _ E3.out).mono ?_;rintro e w5 ⟨rfl,hd5⟩;have hB5:=hd5.below;clear hd5;refine ⟨_,rfl,?_⟩;replace hR0:=rangeAt_belowN hR0 hB5 hZ0;replace hT0:=below_step hT0 hB5;replace hZ0:=Nat.lt_of_lt_of_le hZ0 hB5.size;clear hB5;refine hK.out _ _ hR0 (fun hHeld=>?_);clear hK K;refine nm (some 19) ?_;refine p_ HT_ 13 (some 20) isExtR.l13 ?_;refine p_ HT_ 14 (some 21) isExtR.l14 ?_;refine p_ HT_ 15 (some 22) isExtR.l15 ?_;refine tk HT_ HW_ hHeld 16 (some 23) isExtR.l16 (hr:=by intro w' hs_;have c_:=HC2.out w' hs_;go_simp;with_reducible rfl) (h:=?_)
       cases b4 with
       | false=>
         refine o_ HT_ 17 (some 24) isExtR.l17 fun K hK=>?_;refine gs Tryd.func36 #[.int .i64 x.dest] ?_;refine (code_isAccount.calls x.dest false _ E4.out).mono ?_;rintro e w5 ⟨rfl,hd5⟩;have hB5:=hd5.below;clear hd5;refine ⟨_,rfl,?_⟩;replace hR0:=rangeAt_belowN hR0 hB5 hZ0;replace hT0:=below_step hT0 hB5;replace hZ0:=Nat.lt_of_lt_of_le hZ0 hB5.size;clear hB5;refine hK.out _ _ hR0 (fun hHeld=>?_);clear hK K;refine nm (some 24) ?_;refine p_ HT_ 18 (some 25) isExtR.l18 ?_;refine p_ HT_ 19 (some 26) isExtR.l19 ?_;refine f_ HT_ 20 (some 27) isExtR.l20 ?_;refine f_ HT_ 21 (some 28) isExtR.l21 ?_;refine f_ HT_ 22 (some 29) isExtR.l22 ?_;refine f_ HT_ 23 (some 30) isExtR.l23 ?_;refine p_ HT_ 24 (some 31) isExtR.l24 ?_;refine p_ HT_ 25 (some 32) isExtR.l25 ?_;refine f_ HT_ 26 (some 33) isExtR.l26 ?_;refine f_ HT_ 27 (some 34) isExtR.l27 ?_;refine f_ HT_ 28 (some 35) isExtR.l28 ?_;refine p_ HT_ 29 (some 36) isExtR.l29 ?_;refine p_ HT_ 30 (some 37) isExtR.l30 ?_;refine f_ HT_ 31 (some 38) isExtR.l31 ?_;refine f_ HT_ 32 (some 39) isExtR.l32 ?_;refine f_ HT_ 33 (some 40) isExtR.l33 ?_;refine p_ HT_ 34 (some 41) isExtR.l34 ?_;refine p_ HT_ 35 (some 42) isExtR.l35 ?_;refine f_ HT_ 36 (some 43) isExtR.l36 ?_;refine f_ HT_ 37 (some 44) isExtR.l37 ?_;refine f_ HT_ 38 (some 45) isExtR.l38 ?_;refine p_ HT_ 39 (some 46) isExtR.l39 ?_;refine p_ HT_ 40 (some 47) isExtR.l40 ?_;refine f_ HT_ 41 (some 48) isExtR.l41 ?_;refine f_ HT_ 42 (some 49) isExtR.l42 ?_;refine f_ HT_ 43 (some 50) isExtR.l43 ?_;refine f_ HT_ 44 (some 51) isExtR.l44 ?_;refine f_ HT_ 45 (some 52) isExtR.l45 ?_;refine f_ HT_ 46 (some 53) isExtR.l46 ?_;refine f_ HT_ 47 (some 54) isExtR.l47 ?_;refine f_ HT_ 48 (some 55) isExtR.l48 ?_;refine p_ HT_ 49 (some 56) isExtR.l49 ?_;refine p_ HT_ 50 (some 57) isExtR.l50 ?_;refine f_ HT_ 51 (some 58) isExtR.l51 ?_;refine f_ HT_ 52 (some 59) isExtR.l52 ?_;refine f_ HT_ 53 (some 60) isExtR.l53 ?_;refine f_ HT_ 54 (some 61) isExtR.l54 ?_;refine f_ HT_ 55 (some 62) isExtR.l55 ?_;refine f_ HT_ 56 (some 63) isExtR.l56 ?_;refine f_ HT_ 57 (some 64) isExtR.l57 ?_;refine f_ HT_ 58 (some 65) isExtR.l58 ?_;refine p_ HT_ 59 (some 66) isExtR.l59 ?_;refine p_ HT_ 60 (some 2) isExtR.l60 ?_;refine done_ (done_of HT_.out (by kernel_rfl)) ?_
         go_wp2
         go_ret
         have hk4:=HK4.out
         try rw [hk4] at e1
         try rw [k7] at e1
         try rw [k2] at e1
         exact ⟨by simp [okE, *],hT0⟩
       | true=>
         refine o_ HT_ 17 (some 24) isExtR.l17 fun K hK=>?_;refine gs Tryd.func36 #[.int .i64 x.dest] ?_;refine (code_isAccount.calls x.dest true _ E4.out).mono ?_;rintro e w5 ⟨rfl,hd5⟩;have hB5:=hd5.below;clear hd5;refine ⟨_,rfl,?_⟩;replace hR0:=rangeAt_belowN hR0 hB5 hZ0;replace hT0:=below_step hT0 hB5;replace hZ0:=Nat.lt_of_lt_of_le hZ0 hB5.size;clear hB5;refine hK.out _ _ hR0 (fun hHeld=>?_);clear hK K;refine nm (some 24) ?_;refine p_ HT_ 18 (some 25) isExtR.l18 ?_;refine p_ HT_ 19 (some 26) isExtR.l19 ?_;refine p_ HT_ 20 (some 27) isExtR.l20 ?_;refine tk HT_ HW_ hHeld 21 (some 28) isExtR.l21 (hr:=by intro w' hs_;have c_:=HC3.out w' hs_;go_simp;with_reducible rfl) (h:=?_);refine p_ HT_ 22 (some 29) isExtR.l22 ?_
         cases b5 with
         | false=>
           refine o_ HT_ 23 (some 30) isExtR.l23 fun K hK=>?_;refine gs Tryd.func33 #[.int .i64 x.amt,.int .i64 0,.int .i64 1073741824] ?_;refine (code_isIn.calls x.amt 0 1073741824 false _ E5.out).mono ?_;rintro e w5 ⟨rfl,hd5⟩;have hB5:=hd5.below;clear hd5;refine ⟨_,rfl,?_⟩;replace hR0:=rangeAt_belowN hR0 hB5 hZ0;replace hT0:=below_step hT0 hB5;replace hZ0:=Nat.lt_of_lt_of_le hZ0 hB5.size;clear hB5;refine hK.out _ _ hR0 (fun hHeld=>?_);clear hK K;refine nm (some 30) ?_;refine p_ HT_ 24 (some 31) isExtR.l24 ?_;refine p_ HT_ 25 (some 32) isExtR.l25 ?_;refine f_ HT_ 26 (some 33) isExtR.l26 ?_;refine f_ HT_ 27 (some 34) isExtR.l27 ?_;refine f_ HT_ 28 (some 35) isExtR.l28 ?_;refine p_ HT_ 29 (some 36) isExtR.l29 ?_;refine p_ HT_ 30 (some 37) isExtR.l30 ?_;refine f_ HT_ 31 (some 38) isExtR.l31 ?_;refine f_ HT_ 32 (some 39) isExtR.l32 ?_;refine f_ HT_ 33 (some 40) isExtR.l33 ?_;refine p_ HT_ 34 (some 41) isExtR.l34 ?_;refine p_ HT_ 35 (some 42) isExtR.l35 ?_;refine f_ HT_ 36 (some 43) isExtR.l36 ?_;refine f_ HT_ 37 (some 44) isExtR.l37 ?_;refine f_ HT_ 38 (some 45) isExtR.l38 ?_;refine p_ HT_ 39 (some 46) isExtR.l39 ?_;refine p_ HT_ 40 (some 47) isExtR.l40 ?_;refine f_ HT_ 41 (some 48) isExtR.l41 ?_;refine f_ HT_ 42 (some 49) isExtR.l42 ?_;refine f_ HT_ 43 (some 50) isExtR.l43 ?_;refine f_ HT_ 44 (some 51) isExtR.l44 ?_;refine f_ HT_ 45 (some 52) isExtR.l45 ?_;refine f_ HT_ 46 (some 53) isExtR.l46 ?_;refine f_ HT_ 47 (some 54) isExtR.l47 ?_;refine f_ HT_ 48 (some 55) isExtR.l48 ?_;refine p_ HT_ 49 (some 56) isExtR.l49 ?_;refine p_ HT_ 50 (some 57) isExtR.l50 ?_;refine f_ HT_ 51 (some 58) isExtR.l51 ?_;refine f_ HT_ 52 (some 59) isExtR.l52 ?_;refine f_ HT_ 53 (some 60) isExtR.l53 ?_;refine f_ HT_ 54 (some 61) isExtR.l54 ?_;refine f_ HT_ 55 (some 62) isExtR.l55 ?_;refine f_ HT_ 56 (some 63) isExtR.l56 ?_;refine f_ HT_ 57 (some 64) isExtR.l57 ?_;refine f_ HT_ 58 (some 65) isExtR.l58 ?_;refine p_ HT_ 59 (some 66) isExtR.l59 ?_;refine p_ HT_ 60 (some 2) isExtR.l60 ?_;refine done_ (done_of HT_.out (by kernel_rfl)) ?_
           go_wp2
           go_ret
           have hk4:=HK4.out
           try rw [hk4] at e1
           try rw [k7] at e1
           try rw [k2] at e1
           exact ⟨by simp [okE, *],hT0⟩
         | true=>
           refine o_ HT_ 23 (some 30) isExtR.l23 fun K hK=>?_;refine gs Tryd.func33 #[.int .i64 x.amt,.int .i64 0,.int .i64 1073741824] ?_;refine (code_isIn.calls x.amt 0 1073741824 true _ E5.out).mono ?_;rintro e w5 ⟨rfl,hd5⟩;have hB5:=hd5.below;clear hd5;refine ⟨_,rfl,?_⟩;replace hR0:=rangeAt_belowN hR0 hB5 hZ0;replace hT0:=below_step hT0 hB5;replace hZ0:=Nat.lt_of_lt_of_le hZ0 hB5.size;clear hB5;refine hK.out _ _ hR0 (fun hHeld=>?_);clear hK K;refine nm (some 30) ?_;refine p_ HT_ 24 (some 31) isExtR.l24 ?_;refine p_ HT_ 25 (some 32) isExtR.l25 ?_;refine p_ HT_ 26 (some 33) isExtR.l26 ?_;refine tk HT_ HW_ hHeld 27 (some 34) isExtR.l27 (hr:=by intro w' hs_;have c_:=HC4.out w' hs_;go_simp;with_reducible rfl) (h:=?_)
           cases b6 with
           | false=>
             refine o_ HT_ 28 (some 35) isExtR.l28 fun K hK=>?_;refine gs Tryd.func33 #[.int .i64 x.rfd,.int .i64 0,.int .i64 11] ?_;refine (code_isIn.calls x.rfd 0 11 false _ E6.out).mono ?_;rintro e w5 ⟨rfl,hd5⟩;have hB5:=hd5.below;clear hd5;refine ⟨_,rfl,?_⟩;replace hR0:=rangeAt_belowN hR0 hB5 hZ0;replace hT0:=below_step hT0 hB5;replace hZ0:=Nat.lt_of_lt_of_le hZ0 hB5.size;clear hB5;refine hK.out _ _ hR0 (fun hHeld=>?_);clear hK K;refine nm (some 35) ?_;refine p_ HT_ 29 (some 36) isExtR.l29 ?_;refine p_ HT_ 30 (some 37) isExtR.l30 ?_;refine f_ HT_ 31 (some 38) isExtR.l31 ?_;refine f_ HT_ 32 (some 39) isExtR.l32 ?_;refine f_ HT_ 33 (some 40) isExtR.l33 ?_;refine p_ HT_ 34 (some 41) isExtR.l34 ?_;refine p_ HT_ 35 (some 42) isExtR.l35 ?_;refine f_ HT_ 36 (some 43) isExtR.l36 ?_;refine f_ HT_ 37 (some 44) isExtR.l37 ?_;refine f_ HT_ 38 (some 45) isExtR.l38 ?_;refine p_ HT_ 39 (some 46) isExtR.l39 ?_;refine p_ HT_ 40 (some 47) isExtR.l40 ?_;refine f_ HT_ 41 (some 48) isExtR.l41 ?_;refine f_ HT_ 42 (some 49) isExtR.l42 ?_;refine f_ HT_ 43 (some 50) isExtR.l43 ?_;refine f_ HT_ 44 (some 51) isExtR.l44 ?_;refine f_ HT_ 45 (some 52) isExtR.l45 ?_;refine f_ HT_ 46 (some 53) isExtR.l46 ?_;refine f_ HT_ 47 (some 54) isExtR.l47 ?_;refine f_ HT_ 48 (some 55) isExtR.l48 ?_;refine p_ HT_ 49 (some 56) isExtR.l49 ?_;refine p_ HT_ 50 (some 57) isExtR.l50 ?_;refine f_ HT_ 51 (some 58) isExtR.l51 ?_;refine f_ HT_ 52 (some 59) isExtR.l52 ?_;refine f_ HT_ 53 (some 60) isExtR.l53 ?_;refine f_ HT_ 54 (some 61) isExtR.l54 ?_;refine f_ HT_ 55 (some 62) isExtR.l55 ?_;refine f_ HT_ 56 (some 63) isExtR.l56 ?_;refine f_ HT_ 57 (some 64) isExtR.l57 ?_;refine f_ HT_ 58 (some 65) isExtR.l58 ?_;refine p_ HT_ 59 (some 66) isExtR.l59 ?_;refine p_ HT_ 60 (some 2) isExtR.l60 ?_;refine done_ (done_of HT_.out (by kernel_rfl)) ?_
             go_wp2
             go_ret
             have hk4:=HK4.out
             try rw [hk4] at e1
             try rw [k7] at e1
             try rw [k2] at e1
             exact ⟨by simp [okE, *],hT0⟩
           | true=>
             refine o_ HT_ 28 (some 35) isExtR.l28 fun K hK=>?_;refine gs Tryd.func33 #[.int .i64 x.rfd,.int .i64 0,.int .i64 11] ?_;refine (code_isIn.calls x.rfd 0 11 true _ E6.out).mono ?_;rintro e w5 ⟨rfl,hd5⟩;have hB5:=hd5.below;clear hd5;refine ⟨_,rfl,?_⟩;replace hR0:=rangeAt_belowN hR0 hB5 hZ0;replace hT0:=below_step hT0 hB5;replace hZ0:=Nat.lt_of_lt_of_le hZ0 hB5.size;clear hB5;refine hK.out _ _ hR0 (fun hHeld=>?_);clear hK K;refine nm (some 35) ?_;refine p_ HT_ 29 (some 36) isExtR.l29 ?_;refine p_ HT_ 30 (some 37) isExtR.l30 ?_;refine p_ HT_ 31 (some 38) isExtR.l31 ?_;refine tk HT_ HW_ hHeld 32 (some 39) isExtR.l32 (hr:=by intro w' hs_;have c_:=HC5.out w' hs_;go_simp;with_reducible rfl) (h:=?_)
             cases b7 with
             | false=>
               refine o_ HT_ 33 (some 40) isExtR.l33 fun K hK=>?_;refine gs Tryd.func33 #[.int .i64 x.track,.int .i64 0,.int .i64 3] ?_;refine (code_isIn.calls x.track 0 3 false _ E7.out).mono ?_;rintro e w5 ⟨rfl,hd5⟩;have hB5:=hd5.below;clear hd5;refine ⟨_,rfl,?_⟩;replace hR0:=rangeAt_belowN hR0 hB5 hZ0;replace hT0:=below_step hT0 hB5;replace hZ0:=Nat.lt_of_lt_of_le hZ0 hB5.size;clear hB5;refine hK.out _ _ hR0 (fun hHeld=>?_);clear hK K;refine nm (some 40) ?_;refine p_ HT_ 34 (some 41) isExtR.l34 ?_;refine p_ HT_ 35 (some 42) isExtR.l35 ?_;refine f_ HT_ 36 (some 43) isExtR.l36 ?_;refine f_ HT_ 37 (some 44) isExtR.l37 ?_;refine f_ HT_ 38 (some 45) isExtR.l38 ?_;refine p_ HT_ 39 (some 46) isExtR.l39 ?_;refine p_ HT_ 40 (some 47) isExtR.l40 ?_;refine f_ HT_ 41 (some 48) isExtR.l41 ?_;refine f_ HT_ 42 (some 49) isExtR.l42 ?_;refine f_ HT_ 43 (some 50) isExtR.l43 ?_;refine f_ HT_ 44 (some 51) isExtR.l44 ?_;refine f_ HT_ 45 (some 52) isExtR.l45 ?_;refine f_ HT_ 46 (some 53) isExtR.l46 ?_;refine f_ HT_ 47 (some 54) isExtR.l47 ?_;refine f_ HT_ 48 (some 55) isExtR.l48 ?_;refine p_ HT_ 49 (some 56) isExtR.l49 ?_;refine p_ HT_ 50 (some 57) isExtR.l50 ?_;refine f_ HT_ 51 (some 58) isExtR.l51 ?_;refine f_ HT_ 52 (some 59) isExtR.l52 ?_;refine f_ HT_ 53 (some 60) isExtR.l53 ?_;refine f_ HT_ 54 (some 61) isExtR.l54 ?_;refine f_ HT_ 55 (some 62) isExtR.l55 ?_;refine f_ HT_ 56 (some 63) isExtR.l56 ?_;refine f_ HT_ 57 (some 64) isExtR.l57 ?_;refine f_ HT_ 58 (some 65) isExtR.l58 ?_;refine p_ HT_ 59 (some 66) isExtR.l59 ?_;refine p_ HT_ 60 (some 2) isExtR.l60 ?_;refine done_ (done_of HT_.out (by kernel_rfl)) ?_
               go_wp2
               go_ret
               have hk4:=HK4.out
               try rw [hk4] at e1
               try rw [k7] at e1
               try rw [k2] at e1
               exact ⟨by simp [okE, *],hT0⟩
             | true=>
               refine o_ HT_ 33 (some 40) isExtR.l33 fun K hK=>?_;refine gs Tryd.func33 #[.int .i64 x.track,.int .i64 0,.int .i64 3] ?_;refine (code_isIn.calls x.track 0 3 true _ E7.out).mono ?_;rintro e w5 ⟨rfl,hd5⟩;have hB5:=hd5.below;clear hd5;refine ⟨_,rfl,?_⟩;replace hR0:=rangeAt_belowN hR0 hB5 hZ0;replace hT0:=below_step hT0 hB5;replace hZ0:=Nat.lt_of_lt_of_le hZ0 hB5.size;clear hB5;refine hK.out _ _ hR0 (fun hHeld=>?_);clear hK K;refine nm (some 40) ?_;refine p_ HT_ 34 (some 41) isExtR.l34 ?_;refine p_ HT_ 35 (some 42) isExtR.l35 ?_;refine p_ HT_ 36 (some 43) isExtR.l36 ?_;refine tk HT_ HW_ hHeld 37 (some 44) isExtR.l37 (hr:=by intro w' hs_;have c_:=HC6.out w' hs_;go_simp;with_reducible rfl) (h:=?_)
               cases b8 with
               | false=>
                 refine o_ HT_ 38 (some 45) isExtR.l38 fun K hK=>?_;refine gs Tryd.func33 #[.int .i64 x.level,.int .i64 0,.int .i64 6] ?_;refine (code_isIn.calls x.level 0 6 false _ E8.out).mono ?_;rintro e w5 ⟨rfl,hd5⟩;have hB5:=hd5.below;clear hd5;refine ⟨_,rfl,?_⟩;replace hR0:=rangeAt_belowN hR0 hB5 hZ0;replace hT0:=below_step hT0 hB5;replace hZ0:=Nat.lt_of_lt_of_le hZ0 hB5.size;clear hB5;refine hK.out _ _ hR0 (fun hHeld=>?_);clear hK K;refine nm (some 45) ?_;refine p_ HT_ 39 (some 46) isExtR.l39 ?_;refine p_ HT_ 40 (some 47) isExtR.l40 ?_;refine f_ HT_ 41 (some 48) isExtR.l41 ?_;refine f_ HT_ 42 (some 49) isExtR.l42 ?_;refine f_ HT_ 43 (some 50) isExtR.l43 ?_;refine f_ HT_ 44 (some 51) isExtR.l44 ?_;refine f_ HT_ 45 (some 52) isExtR.l45 ?_;refine f_ HT_ 46 (some 53) isExtR.l46 ?_;refine f_ HT_ 47 (some 54) isExtR.l47 ?_;refine f_ HT_ 48 (some 55) isExtR.l48 ?_;refine p_ HT_ 49 (some 56) isExtR.l49 ?_;refine p_ HT_ 50 (some 57) isExtR.l50 ?_;refine f_ HT_ 51 (some 58) isExtR.l51 ?_;refine f_ HT_ 52 (some 59) isExtR.l52 ?_;refine f_ HT_ 53 (some 60) isExtR.l53 ?_;refine f_ HT_ 54 (some 61) isExtR.l54 ?_;refine f_ HT_ 55 (some 62) isExtR.l55 ?_;refine f_ HT_ 56 (some 63) isExtR.l56 ?_;refine f_ HT_ 57 (some 64) isExtR.l57 ?_;refine f_ HT_ 58 (some 65) isExtR.l58 ?_;refine p_ HT_ 59 (some 66) isExtR.l59 ?_;refine p_ HT_ 60 (some 2) isExtR.l60 ?_;refine done_ (done_of HT_.out (by kernel_rfl)) ?_
                 go_wp2
                 go_ret
                 have hk4:=HK4.out
                 try rw [hk4] at e1
                 try rw [k7] at e1
                 try rw [k2] at e1
                 exact ⟨by simp [okE, *],hT0⟩
               | true=>
                 refine o_ HT_ 38 (some 45) isExtR.l38 fun K hK=>?_;refine gs Tryd.func33 #[.int .i64 x.level,.int .i64 0,.int .i64 6] ?_;refine (code_isIn.calls x.level 0 6 true _ E8.out).mono ?_;rintro e w5 ⟨rfl,hd5⟩;have hB5:=hd5.below;clear hd5;refine ⟨_,rfl,?_⟩;replace hR0:=rangeAt_belowN hR0 hB5 hZ0;replace hT0:=below_step hT0 hB5;replace hZ0:=Nat.lt_of_lt_of_le hZ0 hB5.size;clear hB5;refine hK.out _ _ hR0 (fun hHeld=>?_);clear hK K;refine nm (some 45) ?_
                 by_cases k7 : x.kind = 7
                 ·have k2 : ¬ x.kind = 2:=by omega
                  refine p_ HT_ 39 (some 46) isExtR.l39 ?_;refine p_ HT_ 40 (some 47) isExtR.l40 ?_;refine p_ HT_ 41 (some 48) isExtR.l41 ?_;refine tk HT_ HW_ hHeld 42 (some 49) isExtR.l42 (hr:=by intro w' hs_;have c_:=HC0.out w' hs_;rw [k7] at c_;go_simp;with_reducible rfl) (h:=?_);refine p_ HT_ 43 (some 50) isExtR.l43 ?_;refine p_ HT_ 44 (some 51) isExtR.l44 ?_;refine p_ HT_ 45 (some 52) isExtR.l45 ?_;refine tk HT_ HW_ hHeld 46 (some 53) isExtR.l46 (hr:=by intro w' hs_;obtain ⟨c0,c1,c2,c3,c4,c5⟩:=HCV.out w' hs_;go_simp;with_reducible rfl) (h:=?_)
                  cases vr with
                  | false=>
                    refine o_ HT_ 47 (some 54) isExtR.l47 fun K hK=>?_;refine gs Tryd.func37 #[.agg #[.int .i64 x.vkind,.bool x.vaye,.int .i64 x.vlevel,.int .i64 x.va,.int .i64 x.vn,.int .i64 x.vs]] ?_;refine (conv_Is.calls kv _ _ _ _ _ _ false _ HV.out).mono ?_;rintro e w5 ⟨rfl,hB5⟩;refine ⟨_,rfl,?_⟩;replace hR0:=rangeAt_belowN hR0 hB5 hZ0;replace hT0:=below_step hT0 hB5;replace hZ0:=Nat.lt_of_lt_of_le hZ0 hB5.size;clear hB5;refine hK.out _ _ hR0 (fun hHeld=>?_);clear hK K;refine nm (some 54) ?_;refine p_ HT_ 48 (some 55) isExtR.l48 ?_;refine p_ HT_ 49 (some 56) isExtR.l49 ?_;refine p_ HT_ 50 (some 57) isExtR.l50 ?_;refine f_ HT_ 51 (some 58) isExtR.l51 ?_;refine f_ HT_ 52 (some 59) isExtR.l52 ?_;refine f_ HT_ 53 (some 60) isExtR.l53 ?_;refine f_ HT_ 54 (some 61) isExtR.l54 ?_;refine f_ HT_ 55 (some 62) isExtR.l55 ?_;refine f_ HT_ 56 (some 63) isExtR.l56 ?_;refine f_ HT_ 57 (some 64) isExtR.l57 ?_;refine f_ HT_ 58 (some 65) isExtR.l58 ?_;refine p_ HT_ 59 (some 66) isExtR.l59 ?_;refine p_ HT_ 60 (some 2) isExtR.l60 ?_;refine done_ (done_of HT_.out (by kernel_rfl)) ?_
                    go_wp2
                    go_ret
                    have hk4:=HK4.out
                    try rw [hk4] at e1
                    try rw [k7] at e1
                    try rw [k2] at e1
                    exact ⟨by simp [okE, *],hT0⟩
                  | true=>
                    refine o_ HT_ 47 (some 54) isExtR.l47 fun K hK=>?_;refine gs Tryd.func37 #[.agg #[.int .i64 x.vkind,.bool x.vaye,.int .i64 x.vlevel,.int .i64 x.va,.int .i64 x.vn,.int .i64 x.vs]] ?_;refine (conv_Is.calls kv _ _ _ _ _ _ true _ HV.out).mono ?_;rintro e w5 ⟨rfl,hB5⟩;refine ⟨_,rfl,?_⟩;replace hR0:=rangeAt_belowN hR0 hB5 hZ0;replace hT0:=below_step hT0 hB5;replace hZ0:=Nat.lt_of_lt_of_le hZ0 hB5.size;clear hB5;refine hK.out _ _ hR0 (fun hHeld=>?_);clear hK K;refine nm (some 54) ?_;refine p_ HT_ 48 (some 55) isExtR.l48 ?_;refine p_ HT_ 49 (some 56) isExtR.l49 ?_;refine p_ HT_ 50 (some 57) isExtR.l50 ?_;refine p_ HT_ 51 (some 58) isExtR.l51 ?_;refine tk HT_ HW_ hHeld 52 (some 59) isExtR.l52 (hr:=by intro w' hs_;have c_:=HC0.out w' hs_;rw [k7] at c_;go_simp;with_reducible rfl) (h:=?_);refine p_ HT_ 53 (some 60) isExtR.l53 ?_;refine p_ HT_ 54 (some 61) isExtR.l54 ?_;refine f_ HT_ 55 (some 62) isExtR.l55 ?_;refine f_ HT_ 56 (some 63) isExtR.l56 ?_;refine f_ HT_ 57 (some 64) isExtR.l57 ?_;refine p_ HT_ 58 (some 65) isExtR.l58 ?_;refine p_ HT_ 59 (some 66) isExtR.l59 ?_;refine p_ HT_ 60 (some 2) isExtR.l60 ?_;refine done_ (done_of HT_.out (by kernel_rfl)) ?_
                    go_wp2
                    go_ret
                    have hk4:=HK4.out
                    try rw [hk4] at e1
                    try rw [k7] at e1
                    try rw [k2] at e1
                    exact ⟨by simp [okE, *],hT0⟩
                 by_cases k2 : x.kind = 2
                 ·skip
                  refine p_ HT_ 39 (some 46) isExtR.l39 ?_;refine p_ HT_ 40 (some 47) isExtR.l40 ?_;refine p_ HT_ 41 (some 48) isExtR.l41 ?_;refine tk HT_ HW_ hHeld 42 (some 49) isExtR.l42 (hr:=by intro w' hs_;have c_:=HC0.out w' hs_;rw [k2] at c_;go_simp;with_reducible rfl) (h:=?_);refine p_ HT_ 43 (some 50) isExtR.l43 ?_;refine p_ HT_ 44 (some 51) isExtR.l44 ?_;refine f_ HT_ 45 (some 52) isExtR.l45 ?_;refine f_ HT_ 46 (some 53) isExtR.l46 ?_;refine f_ HT_ 47 (some 54) isExtR.l47 ?_;refine p_ HT_ 48 (some 55) isExtR.l48 ?_;refine p_ HT_ 49 (some 56) isExtR.l49 ?_;refine p_ HT_ 50 (some 57) isExtR.l50 ?_;refine p_ HT_ 51 (some 58) isExtR.l51 ?_;refine tk HT_ HW_ hHeld 52 (some 59) isExtR.l52 (hr:=by intro w' hs_;have c_:=HC0.out w' hs_;rw [k2] at c_;go_simp;with_reducible rfl) (h:=?_);refine p_ HT_ 53 (some 60) isExtR.l53 ?_;refine p_ HT_ 54 (some 61) isExtR.l54 ?_;refine p_ HT_ 55 (some 62) isExtR.l55 ?_;refine tk HT_ HW_ hHeld 56 (some 63) isExtR.l56 (hr:=by intro w' hs_;obtain ⟨c0,c1,c2,c3⟩:=HCC.out w' hs_;go_simp;with_reducible rfl) (h:=?_)
                  cases cr with
                  | false=>
                    refine o_ HT_ 57 (some 64) isExtR.l57 fun K hK=>?_;refine gs Tryd.func14 #[.agg #[.int .i64 x.call.f0,.int .i64 x.call.f1,.int .i64 x.call.f2,.slice A x.call.f3.length c]] ?_;refine (code_IsCall.calls _ _ _ A c x.call.f3 false _ (Kd.C_below HC.out hT0) Hc.out ECR.out).mono ?_;rintro e w5 ⟨rfl,hB5⟩;refine ⟨_,rfl,?_⟩;replace hR0:=rangeAt_belowN hR0 hB5 hZ0;replace hT0:=below_step hT0 hB5;replace hZ0:=Nat.lt_of_lt_of_le hZ0 hB5.size;clear hB5;refine hK.out _ _ hR0 (fun hHeld=>?_);clear hK K;refine nm (some 64) ?_;refine p_ HT_ 58 (some 65) isExtR.l58 ?_;refine p_ HT_ 59 (some 66) isExtR.l59 ?_;refine p_ HT_ 60 (some 2) isExtR.l60 ?_;refine done_ (done_of HT_.out (by kernel_rfl)) ?_
                    go_wp2
                    go_ret
                    have hk4:=HK4.out
                    try rw [hk4] at e1
                    try rw [k7] at e1
                    try rw [k2] at e1
                    exact ⟨by simp [okE, *],hT0⟩
                  | true=>
                    refine o_ HT_ 57 (some 64) isExtR.l57 fun K hK=>?_;refine gs Tryd.func14 #[.agg #[.int .i64 x.call.f0,.int .i64 x.call.f1,.int .i64 x.call.f2,.slice A x.call.f3.length c]] ?_;refine (code_IsCall.calls _ _ _ A c x.call.f3 true _ (Kd.C_below HC.out hT0) Hc.out ECR.out).mono ?_;rintro e w5 ⟨rfl,hB5⟩;refine ⟨_,rfl,?_⟩;replace hR0:=rangeAt_belowN hR0 hB5 hZ0;replace hT0:=below_step hT0 hB5;replace hZ0:=Nat.lt_of_lt_of_le hZ0 hB5.size;clear hB5;refine hK.out _ _ hR0 (fun hHeld=>?_);clear hK K;refine nm (some 64) ?_;refine p_ HT_ 58 (some 65) isExtR.l58 ?_;refine p_ HT_ 59 (some 66) isExtR.l59 ?_;refine p_ HT_ 60 (some 2) isExtR.l60 ?_;refine done_ (done_of HT_.out (by kernel_rfl)) ?_
                    go_wp2
                    go_ret
                    have hk4:=HK4.out
                    try rw [hk4] at e1
                    try rw [k7] at e1
                    try rw [k2] at e1
                    exact ⟨by simp [okE, *],hT0⟩
                 have k7a : decide (x.kind = 7) = false:=decide_eq_false k7;have k7b : (x.kind == 7) = false:=beq_eq_false_iff_ne.2 k7;have k7c : (x.kind != 7) = true:=bne_iff_ne.2 k7;have k2a : decide (x.kind = 2) = false:=decide_eq_false k2;have k2b : (x.kind == 2) = false:=beq_eq_false_iff_ne.2 k2;have k2c : (x.kind != 2) = true:=bne_iff_ne.2 k2;refine p_ HT_ 39 (some 46) isExtR.l39 ?_;refine p_ HT_ 40 (some 47) isExtR.l40 ?_;refine p_ HT_ 41 (some 48) isExtR.l41 ?_;refine tk HT_ HW_ hHeld 42 (some 49) isExtR.l42 (hr:=by intro w' hs_;have c_:=HC0.out w' hs_;go_simp;with_reducible rfl) (h:=?_);refine p_ HT_ 43 (some 50) isExtR.l43 ?_;refine p_ HT_ 44 (some 51) isExtR.l44 ?_;refine f_ HT_ 45 (some 52) isExtR.l45 ?_;refine f_ HT_ 46 (some 53) isExtR.l46 ?_;refine f_ HT_ 47 (some 54) isExtR.l47 ?_;refine p_ HT_ 48 (some 55) isExtR.l48 ?_;refine p_ HT_ 49 (some 56) isExtR.l49 ?_;refine p_ HT_ 50 (some 57) isExtR.l50 ?_;refine p_ HT_ 51 (some 58) isExtR.l51 ?_;refine tk HT_ HW_ hHeld 52 (some 59) isExtR.l52 (hr:=by intro w' hs_;have c_:=HC0.out w' hs_;go_simp;with_reducible rfl) (h:=?_);refine p_ HT_ 53 (some 60) isExtR.l53 ?_;refine p_ HT_ 54 (some 61) isExtR.l54 ?_;refine f_ HT_ 55 (some 62) isExtR.l55 ?_;refine f_ HT_ 56 (some 63) isExtR.l56 ?_;refine f_ HT_ 57 (some 64) isExtR.l57 ?_;refine p_ HT_ 58 (some 65) isExtR.l58 ?_;refine p_ HT_ 59 (some 66) isExtR.l59 ?_;refine p_ HT_ 60 (some 2) isExtR.l60 ?_;refine done_ (done_of HT_.out (by kernel_rfl)) ?_
                 go_wp2
                 go_ret
                 have hk4:=HK4.out
                 try rw [hk4] at e1
                 try rw [k7] at e1
                 try rw [k2] at e1
                 exact ⟨by simp [okE, *],hT0⟩
end Go.Proofs.YtilckocpgififaaDoor.G
/- code.named's contract, kind by kind (laid by mknamed.py). -/
namespace Go.Proofs.YtilckocpgififaaDoor.G
open Go.Extern.Stop (cell)
open Go.RowKit Go.Proofs.YtilckocpgififaaDoorW.PrintWords Go.Proofs.YtilckocpgififaaDoorW.PrintLast Go.Proofs.YtilckocpgififaaDoorW.PrintMore
set_option linter.unusedVariables false
set_option linter.unusedSimpArgs false
set_option maxRecDepth 100000 in
set_option maxHeartbeats 16000000 in
theorem named_11 (x : Ext) (A : Option Addr) (c : Nat) (hk : x.kind = 11) (hx : x.sum.length = 32) (w : World) :
 Calls Tryd.prog 35 #[.agg (x.cells A c).toArray] w fun e w'=>e = .returned (.agg ({ ext0 11 x.who with track:=x.track }.cells none 0).toArray) ∧ Below w.heap.size w w':=by
 obtain ⟨X,hX⟩ : ∃ X,X = (x.cells A c).toArray:=⟨_,rfl⟩;obtain ⟨Z,hZ⟩ : ∃ Z,Z = (ext0 0 0).cells none 0:=⟨_,rfl⟩;obtain ⟨Y,hY⟩ : ∃ Y,Y = (ext0 11 x.who).cells none 0:=⟨_,rfl⟩
 have hZl : Z.length = 49:=by rw [hZ];rfl
 have hYl : Y.length = 49:=by rw [hY];rfl
 have hYo : ∀ v ∈ Y,v.oneCell' = true:=by rw [hY];exact Ext.cells_one _ _ _
 have hal : ∀ w,(zeroValue 51).run Tryd.prog w = .ok (.agg Z.toArray) w:=fun w=>by rw [hZ];exact zero_ext w
 have hbr : ∀ w,(Instr.build 51 #[(0,.int .i64 11),(1,.int .i64 x.who)]).run Tryd.prog w = .ok (.agg Y.toArray) w:=fun w=>run_build w _ _ _ (by rw [hY];exact built_ext 11 x.who);rw [← hX];have HX:=am hX;have HY:=am hY;have Hx:=am hx;have HZl:=am hZl;have HYl:=am hYl;have HYo:=am hYo;have HK:=am hk;clear hX hY hx hZ hZl hYl hYo hk;go_enter Tryd.func35,Tryd.ntmps35
 go_upto_region 1 with (first
  | ((with_reducible refine gate_dst (N:=1) rfl ?_);refine box_event ?hg (N:=1) ?hd (cs:=X) (t:=51) ?hr ?_;(case hd=>rfl);(case hg=>rfl);(case hr=>first | (go_simp;done) | (go_simp;rfl));intro g1 hg1 w1 hbox1 hb1;have BX1:=am (rangeAt_boxN (HX.out ▸ hbox1));have HXlt:=am (blk_lt hbox1);have HB1:=am hb1;clear hg1 hbox1 hb1)
  | ((with_reducible refine gate_dst (N:=2) rfl ?_);refine box_event ?hg (N:=2) ?hd (cs:=Z.toArray) (t:=51) ?hr ?_;(case hd=>rfl);(case hg=>rfl);(case hr=>first | (simp [execOp,Instr.alloc,hal,newVar,newRow,go_sem];done) | (simp [execOp,Instr.alloc,hal,newVar,newRow,go_sem];rfl));intro g2 hg2 w2 hbox2 hb2;have G2:=am hg2;have BZ2:=am (there_boxN hbox2);have HZlt:=am (blk_lt hbox2);have HB2:=am hb2;clear hg2 hbox2 hb2))
 obtain ⟨p0,p1,p2,p3,p4,p5,p6⟩:=x.at_head A c (rangeAt_belowN BX1.out HB2.out HXlt.out);rw [HK.out] at p0
 go_upto_region 2 with (first
  | ((with_reducible refine gate_dst (N:=8) rfl ?_);refine Kd.event_run (v:= .agg Y.toArray) (w1:=w2) rfl (by first | (simp [execOp,hbr,go_sem];done) | (simp [execOp,hbr,go_sem];rw [HY.out];rfl)) ?_)
  | ((with_reducible refine gate_dst (N:=3) rfl ?_);refine box_event ?hg (N:=3) ?hd (cs:=Z.toArray) (t:=51) ?hr ?_;(case hd=>rfl);(case hg=>rfl);(case hr=>first | (simp [execOp,Instr.alloc,hal,newVar,newRow,go_sem];done) | (simp [execOp,Instr.alloc,hal,newVar,newRow,go_sem];rfl));intro g3 hg3 w3 hbox3 hb3;have G3:=am hg3;have BZ3:=am (there_boxN hbox3);have HYlt:=am (blk_lt hbox3);have HB3:=am hb3;clear hg3 hbox3 hb3)
  | ((with_reducible refine gate_store (t:=51) (p:=3) rfl ?_);refine wpList_store_mid rfl 51 _ _ rfl g3 0 Y.toArray rfl rfl (by rw [List.size_toArray,HYl.out,← HZl.out];exact BZ3.out) (by rw [List.size_toArray,HYl.out];exact info_ext') (all_oneCell_toArray HYo.out) ?_))
 have ne13 : g1 ≠ g3:=by have:=G3.out;have:=HB2.out.size;have:=HXlt.out;omega
 have ne23 : g2 ≠ g3:=by have:=G3.out;have:=HZlt.out;omega
 have BX3:=rangeAt_belowN (rangeAt_belowN BX1.out HB2.out HXlt.out) HB3.out (by have:=HB2.out.size;have:=HXlt.out;omega);have BX4:=am (World.rangeAt_setCells_apart BX3 g3 0 Y (.inl ne13));have BY4:=am (World.rangeAt_setCells_same w3 g3 0 Y (by rw [HYl.out,← HZl.out];exact BZ3.out));have TY4:=am (World.there_setCells BZ3.out g3 0 Y);have TZ3 : w3.there g2 0 Z.length:=fun j hj=>⟨by rw [HB3.out.cell (p:=⟨g2,0 + j,none⟩) HZlt.out];exact (BZ2.out j hj).1,by rw [HB3.out.frozen (p:=⟨g2,0 + j,none⟩) HZlt.out];exact (BZ2.out j hj).2⟩;have TZ4:=am (World.there_setCells TZ3 g3 0 Y);have HB3a:=below_step (below_step HB1.out HB2.out) HB3.out;have HB4:=am (below_setCellsN g3 (by have:=G3.out;have:=(below_step HB1.out HB2.out).size;omega) Y 0 w3 HB3a)
 have s1 : w.heap.size ≤ g2:=by have:=G2.out;have:=HB1.out.size;omega
 have s2 : w.heap.size ≤ g3:=by have:=G3.out;have:=(below_step HB1.out HB2.out).size;omega
 clear BX3 TZ3 HB3a p0 p1 p2 p3 p4 p5 p6;generalize w3.setCells g3 0 Y = w4 at BX4 BY4 TY4 TZ4 HB4 ⊢;obtain ⟨p0,p1,p2,p3,p4,p5,p6⟩:=x.at_head A c BX4.out;rw [HK.out] at p0
 have c5 : w4.cell? ⟨g3,5,none⟩ = some (.int .i64 0):=by have:=BY4.out 5 (.int .i64 0) (by rw [HY.out];rfl);rw [Nat.zero_add] at this;exact this
 have f5 : w4.frozen? ⟨g3,5,none⟩ = false:=by have:=(TY4.out 5 (by rw [HZl.out];decide)).2;rw [Nat.zero_add] at this;exact this
 go_upto_region 22 with (fail)
 have TYs:=TY4.out;rw [HZl.out,← HYl.out] at TYs;have BY0_:=set_range BY4.out (by (try simp only [List.length_set]);exact TYs) 5 (by (try simp only [List.length_set]);rw [HYl.out];decide) (.int .i64 x.track);have TY0_:=there_setCellN TYs g3 5 (.int .i64 x.track);have TZ0_:=there_setCellN TZ4.out g3 5 (.int .i64 x.track);have HB0_:=HB4.out.setCell (p:=⟨g3,5,none⟩) s2 (.int .i64 x.track);obtain ⟨L,hL⟩ : ∃ L,L = (Y).set 5 (.int .i64 x.track):=⟨_,rfl⟩;rw [← hL] at BY0_;have HLl:=am (by rw [hL];simp only [List.length_set];exact HYl.out : L.length = 49)
 have HLo:=am (by
  rw [hL];intro v hv
  rcases List.mem_or_eq_of_mem_set hv with hv | rfl
  rotate_left
  ·rfl
  exact HYo.out v hv : ∀ v ∈ L,v.oneCell' = true)
 have HL:=am hL;have BY5:=am BY0_;have TZ5:=am TZ0_;have HB5:=am HB0_;generalize (w4).setCell ⟨g3,5,none⟩ (.int .i64 x.track) = w5 at BY5 TZ5 HB5 ⊢
 go_wp2_with (first
  | ((with_reducible refine gate_dst (N:=75) rfl ?_);refine wpList_load_mid rfl 51 _ rfl g3 0 rfl L _ BY5.out Tryd.underlying51 rfl (by rw [HLl.out];exact info_ext') ?_)
  | ((with_reducible refine gate_store (t:=51) (p:=2) rfl ?_);refine wpList_store_mid rfl 51 _ _ rfl g2 0 L.toArray rfl rfl (by rw [List.size_toArray,HLl.out,← HZl.out];exact TZ5.out) (by rw [List.size_toArray,HLl.out];exact info_ext') (all_oneCell_toArray HLo.out) ?_))
 have BR:=World.rangeAt_setCells_same w5 g2 0 L (by rw [HLl.out,← HZl.out];exact TZ5.out);have hres:=run_loadVar_mid (P:=Tryd.prog) (w5.setCells g2 0 L) g2 0 51 L _ BR Tryd.underlying51 rfl (by rw [HLl.out];exact info_ext');refine bodyPost_ret (v:= .agg L.toArray) (results_cellN rfl _ rfl hres) rfl ?_;exact ⟨by rw [HL.out,HY.out];rfl,below_setCellsN g2 s1 L 0 w5 HB5.out⟩
end Go.Proofs.YtilckocpgififaaDoor.G
/- code.IsExt's contract, joined; account 2's unlocking. -/
namespace Go.Proofs.YtilckocpgififaaDoor.G
open Go.Extern.Stop (cell)
open Go.RowKit Go.Proofs.YtilckocpgififaaDoorW.PrintWords Go.Proofs.YtilckocpgififaaDoorW.PrintLast Go.Proofs.YtilckocpgififaaDoorW.PrintMore
set_option linter.unusedVariables false
set_option linter.unusedSimpArgs false
theorem isExt_calls (x : Ext) (A : Option Addr) (c : Nat) (w : World) (hx : x.sum.length = 32) (hC : Kd.C k24 w A x.call.f3.length x.call.f3) (hc : x.call.f3.length ≤ c)
 (N : Array Value) (same : Bool) (hN : ∀ w,Calls Tryd.prog 35 #[.agg (x.cells A c).toArray] w fun e w'=>e = .returned (.agg N) ∧ Below w.heap.size w w')
 (hS : ∀ w1,Below w.heap.size w w1 → Calls Tryd.prog 34 #[.agg N,.agg (x.cells A c).toArray] w1 fun e w'=>e = .returned (.bool same) ∧ Below w1.heap.size w1 w')
 (kv : Nat) (vr : Bool) (hv : conv_Is.f kv x.vkind x.vaye x.vlevel x.va x.vn x.vs = some vr) :
 Calls Tryd.prog 21 #[.agg (x.cells A c).toArray] w fun e w'=>e = .returned (.bool (okE x same vr (okC 3 x.call.f0 x.call.f1 x.call.f2 x.call.f3))) ∧ Below w.heap.size w w':=by
 by_cases h : x.kind = 4
 rotate_left
 ·exact isExt_other x A c w hx hC hc N same hN hS h kv vr hv
 exact isExt_submit x A c w hx hC hc N same hN hS h kv vr hv
theorem isExt_of (x nx : Ext) (A A' : Option Addr) (c c' : Nat) (w : World) (hx : x.sum.length = 32) (hn : nx.sum.length = 32) (hC : Kd.C k24 w A x.call.f3.length x.call.f3) (hc : x.call.f3.length ≤ c)
 (hC' : Kd.C k24 w A' nx.call.f3.length nx.call.f3) (hc' : nx.call.f3.length ≤ c')
 (hN : ∀ w,Calls Tryd.prog 35 #[.agg (x.cells A c).toArray] w fun e w'=>e = .returned (.agg (nx.cells A' c').toArray) ∧ Below w.heap.size w w')
 (f : Nat) (sc : Bool) (hs : sameF f nx.call x.call = some sc) (kv : Nat) (vr : Bool) (hv : conv_Is.f kv x.vkind x.vaye x.vlevel x.va x.vn x.vs = some vr) :
 Calls Tryd.prog 21 #[.agg (x.cells A c).toArray] w fun e w'=>e = .returned (.bool (okE x (sc && sameX nx x) vr (okC 3 x.call.f0 x.call.f1 x.call.f2 x.call.f3))) ∧ Below w.heap.size w w':=
 isExt_calls x A c w hx hC hc _ _ hN (fun w1 hb=>code_SameExt.calls f nx x A' A c' c sc w1 hn hx (Kd.C_below hC' hb) hc' (Kd.C_below hC hb) hc hs) kv vr hv
theorem zsum_length : zSum.length = 32:=List.length_replicate
def x0 : Ext:=ext0 11 2
theorem vote0 : conv_Is.f 40 0 false 0 0 0 0 = some false:=by decide +kernel
theorem isExt_unlock (w : World) : Calls Tryd.prog 21 #[.agg (x0.cells none 0).toArray] w fun e w'=>e = .returned (.bool true) ∧ Below w.heap.size w w':=by
 have h:=isExt_of x0 x0 none none 0 0 w zsum_length zsum_length (Kd.C_nil _ _) (Nat.le_refl _) (Kd.C_nil _ _) (Nat.le_refl _) (named_11 x0 none 0 rfl zsum_length) 1 true rfl 40 false vote0
 have e : okE x0 (true && sameX x0 x0) false (okC 3 0 0 0 []) = true:=by decide
 have e' : okE x0 (true && sameX x0 x0) false (okC 3 x0.call.f0 x0.call.f1 x0.call.f2 x0.call.f3) = true:=e;rw [e'] at h;exact h
end Go.Proofs.YtilckocpgififaaDoor.G
