/- blake.begin and blake.words (laid by mkwords.py) -/
import Derived.Test.YtilckocpgififaaDoorScHStep
import Derived.Test.YtilckocpgififaaDoorScBArr
import Derived.Test.YtilckocpgififaaDoorScHSeq
import Derived.IntWalk
namespace Go.Proofs.YtilckocpgififaaDoor.G
open Go.RowKit Go.Proofs.YtilckocpgififaaDoorW.PrintWords Go.Proofs.YtilckocpgififaaDoorW.PrintLast Go.Proofs.YtilckocpgififaaDoorW.PrintMore
set_option linter.unusedVariables false
set_option linter.unusedSimpArgs false
def beginV : List Int:=[7640891576956012808,13503953896175478587,4354685564936845355,11912009170470909681,5840696475078001361,11170449401992604703,2270897969802886507,6620516959819538809]
def orAt (V : List Int) (k : Nat) (c : Int) : List Int:=V.set (k / 8) (Go.bits .or .u64 (V.getD (k / 8) 0) (shl .u64 c (8 * ((k % 8 : Nat) : Int))))
def wordsF : List Int → Nat → List Int → List Int
 | [],_,V=>V
 | c :: l,k,V=>wordsF l (k + 1) (orAt V k c)
def zero16 : List Int:=List.replicate 16 0
def wordsL (b : List Int) : List Int:=wordsF b 0 zero16
theorem orAt_length (V : List Int) (k : Nat) (c : Int) : (orAt V k c).length = V.length:=by unfold orAt;simp
theorem wordsF_length : ∀ (l : List Int) (k : Nat) (V : List Int),(wordsF l k V).length = V.length
 | [],_,_=>rfl
 | c :: l,k,V=>(wordsF_length l (k + 1) _).trans (orAt_length V k c)
theorem wordsL_length (b : List Int) : (wordsL b).length = 16:=wordsF_length b 0 zero16
theorem C_cell {w : World} {A : Option Addr} {n : Nat} {l : List Int} (h : Kd.C (Kd.int .u8) w A n l) (k : Nat) (hk : k < n) (hn : l.length = n) : ∃ ad,A = some ad ∧ w.cell? (ad.add k) = some (.int .u8 (l.getD k 0)):=by
 subst hn
 rcases C_cells h with ⟨_,h0⟩ | ⟨ad,rfl,_,hcs⟩
 ·omega
 ·refine ⟨ad,rfl,?_⟩;have:=hcs (k : Int) (by omega) (by omega);rw [Int.toNat_natCast] at this;rw [this]
  unfold rd
  rw [Int.toNat_natCast]
theorem info_a8 : (Tryd.prog.info? 62).map (fun i=>(i.zero,i.size)) = some (some (.agg ((List.replicate 8 0).map (Value.int .u64)).toArray),8):=by kernel_rfl
theorem info_a16 : (Tryd.prog.info? 91).map (fun i=>(i.zero,i.size)) = some (some (.agg (zero16.map (Value.int .u64)).toArray),16):=by kernel_rfl
theorem built_begin : Tryd.prog.built 62 [(0,.int .u64 7640891576956012808),(1,.int .u64 13503953896175478587),(2,.int .u64 4354685564936845355),(3,.int .u64 11912009170470909681),(4,.int .u64 5840696475078001361),(5,.int .u64 11170449401992604703),(6,.int .u64 2270897969802886507),(7,.int .u64 6620516959819538809)] = some (beginV.map (Value.int .u64)).toArray:=by kernel_rfl
set_option maxRecDepth 100000 in
set_option maxHeartbeats 4000000 in
theorem blake_begin.calls (w : World) : Calls Tryd.prog 51 #[] w fun e w'=>e = .returned (.agg (beginV.map (Value.int .u64)).toArray) ∧ Below w.heap.size w w':=by
 obtain ⟨Z,hZ⟩ : ∃ Z,Z = (List.replicate 8 (0 : Int)).map (Value.int .u64):=⟨_,rfl⟩;obtain ⟨X,hX⟩ : ∃ X,X = beginV.map (Value.int .u64):=⟨_,rfl⟩
 have hZl : Z.length = 8:=by rw [hZ];rfl
 have hXl : X.length = 8:=by rw [hX];rfl
 have hal : ∀ w,(zeroValue 62).run Tryd.prog w = .ok (.agg Z.toArray) w:=fun w=>by rw [hZ];exact zero_run info_a8 w
 have hbr : ∀ w,(Instr.build 62 #[(0,.int .u64 7640891576956012808),(1,.int .u64 13503953896175478587),(2,.int .u64 4354685564936845355),(3,.int .u64 11912009170470909681),(4,.int .u64 5840696475078001361),(5,.int .u64 11170449401992604703),(6,.int .u64 2270897969802886507),(7,.int .u64 6620516959819538809)]).run Tryd.prog w = .ok (.agg X.toArray) w:=fun w=>run_build w _ _ _ (by rw [hX];exact built_begin)
 have hXo : ∀ v ∈ X,v.oneCell' = true:=by rw [hX];exact one_of_map _
 rw [← hX];have HX:=am hX;have HZl:=am hZl;have HXl:=am hXl;have HXo:=am hXo;clear hX hZ hZl hXl hXo;go_enter Tryd.func51,Tryd.ntmps51
 go_upto_region 1 with ((with_reducible refine gate_dst (N:=0) rfl ?_);refine box_event ?hg (N:=0) ?hd (cs:=Z.toArray) (t:=62) ?hr ?_;(case hd=>rfl);(case hg=>rfl);(case hr=>first | (simp [execOp,Instr.alloc,hal,newVar,newRow,go_sem];done) | (simp [execOp,Instr.alloc,hal,newVar,newRow,go_sem];rfl));intro g2 hg_ w2 hbox_ hb_;have G2:=am hg_;have BZ2:=am (there_box hbox_);have HB2:=am hb_;clear hg_ hbox_ hb_)
 go_wp2_with (first
  | ((with_reducible refine gate_dst (N:=1) rfl ?_);refine Kd.event_run (v:= .agg X.toArray) (w1:=w2) rfl (by first | (simp [execOp,hbr,go_sem];done) | (simp [execOp,hbr,go_sem];rw [HX.out];rfl)) ?_)
  | ((with_reducible refine gate_store (t:=62) (p:=0) rfl ?_);refine wpList_store_mid rfl 62 _ _ rfl g2 0 X.toArray rfl rfl (by rw [List.size_toArray,HXl.out,← HZl.out];exact BZ2.out) (by rw [List.size_toArray,HXl.out];exact size_of info_a8) (all_oneCell_toArray HXo.out) ?_))
 have BR:=World.rangeAt_setCells_same w2 g2 0 X (by rw [HXl.out,← HZl.out];exact BZ2.out);have hres:=run_loadVar_mid (P:=Tryd.prog) (w2.setCells g2 0 X) g2 0 62 X _ BR Tryd.underlying62 rfl (by rw [HXl.out];exact size_of info_a8);refine bodyPost_ret (v:= .agg X.toArray) (results_cell rfl _ rfl hres) rfl ?_;exact ⟨rfl,below_setCells g2 (by have:=G2.out;omega) X 0 w2 HB2.out⟩
def blake_words_r5.T : Bool × List (List Nat × List Nat):=(true,[([],[]),([0],[0]),([1],[1]),([2],[2]),([],[]),([4],[4]),([],[]),([6],[6]),([7],[7]),([5,8],[5,8]),([3,9],[3,9]),([1,0,1,2,3,4,5,6,7,8,9,10],[1]),([11,10,0,1,2,3,4,5,6,7,8,9,10],[10,11])])
def blake_words_r5.B : List Nat:=[0,1,3,7,0,16,0,64,192,496,1023,2047,4095]
theorem blake_words_r5.tab : rtab .any (opsOf Tryd.f68 5) = blake_words_r5.T:=by kernel_rfl
theorem blake_words_r5.bits : waitsOk blake_words_r5.T.2 blake_words_r5.B = true:=by kernel_rfl
def blake_words_r5.l0 : Array Bool:=bl 13 1
def blake_words_r5.l1 : Array Bool:=bl 13 3
def blake_words_r5.l2 : Array Bool:=bl 13 7
def blake_words_r5.l3 : Array Bool:=bl 13 15
def blake_words_r5.l4 : Array Bool:=bl 13 31
def blake_words_r5.l5 : Array Bool:=bl 13 63
def blake_words_r5.l6 : Array Bool:=bl 13 127
def blake_words_r5.l7 : Array Bool:=bl 13 255
def blake_words_r5.l8 : Array Bool:=bl 13 511
def blake_words_r5.l9 : Array Bool:=bl 13 1023
def blake_words_r5.l10 : Array Bool:=bl 13 2047
def blake_words_r5.l11 : Array Bool:=bl 13 4095
def blake_words_r5.l12 : Array Bool:=bl 13 8191
set_option maxRecDepth 100000 in
set_option maxHeartbeats 8000000 in
theorem blake_words.calls (A : Option Addr) (cp : Nat) (l : List Int) (w : World) (hC : Kd.C (Kd.int .u8) w A l.length l) (hl : l.length ≤ 128) (hB : ∀ c ∈ l,0 ≤ c ∧ c < 256) :
 Calls Tryd.prog 68 #[.slice A l.length cp] w fun e w'=>e = .returned (.agg ((wordsL l).map (Value.int .u64)).toArray) ∧ Below w.heap.size w w':=by
 obtain ⟨Z,hZ⟩ : ∃ Z,Z = zero16.map (Value.int .u64):=⟨_,rfl⟩
 have hZl : Z.length = 16:=by rw [hZ];rfl
 have hal : ∀ w,(zeroValue 91).run Tryd.prog w = .ok (.agg Z.toArray) w:=fun w=>by rw [hZ];exact zero_run info_a16 w
 have HZ:=am hZ;have HZl:=am hZl;have HC:=am hC;have HBy:=am hB;clear hZ hZl hC hB;go_enter Tryd.func68,Tryd.ntmps68
 go_upto_region 2 with (first
  | ((with_reducible refine gate_dst (N:=2) rfl ?_);refine box_event ?hg (N:=2) ?hd (cs:=Z.toArray) (t:=91) ?hr ?_;(case hd=>rfl);(case hg=>rfl);(case hr=>first | (simp [execOp,Instr.alloc,hal,newVar,newRow,go_sem];done) | (simp [execOp,Instr.alloc,hal,newVar,newRow,go_sem];rfl));intro g2 hg_ w2 hbox_ hb_;have G2:=am hg_;have BZ2:=am (there_box hbox_);have HB2:=am hb_;have HLT2:=am (blk_lt hbox_);clear hg_ hbox_ hb_)
  | ((with_reducible refine gate_dst (N:=3) rfl ?_);refine box_event ?hg (N:=3) ?hd (cs:=Z.toArray) (t:=91) ?hr ?_;(case hd=>rfl);(case hg=>rfl);(case hr=>first | (simp [execOp,Instr.alloc,hal,newVar,newRow,go_sem];done) | (simp [execOp,Instr.alloc,hal,newVar,newRow,go_sem];rfl));intro g3 hg_ w3 hbox_ hb_;have G3:=am hg_;have BZ3:=am (there_box hbox_);have BX3:=am (rangeAt_box hbox_);have HB3:=am hb_;clear hg_ hbox_ hb_))
 have hA0 : Arr w3 g3 zero16:=⟨by rw [← HZ.out];exact BX3.out,by rw [show zero16.length = Z.length by rw [HZl.out];rfl];exact BZ3.out⟩;have HA0:=am hA0
 have s1 : w.heap.size ≤ g2:=by have:=G2.out;omega
 have s2 : w.heap.size ≤ g3:=by have:=G3.out;have:=HB2.out.size;omega
 have ne23 : g2 ≠ g3:=by have:=G3.out;have:=HLT2.out;omega
 have TZ3 : w3.there g2 0 Z.length:=fun j hj=>⟨by rw [HB3.out.cell (p:=⟨g2,0 + j,none⟩) HLT2.out];exact (BZ2.out j hj).1,by rw [HB3.out.frozen (p:=⟨g2,0 + j,none⟩) HLT2.out];exact (BZ2.out j hj).2⟩;have HTZ:=am TZ3;have HB0:=am (below_step HB2.out HB3.out);have NE:=am ne23;have S1:=am s1;have S2:=am s2;clear hA0 TZ3 BX3 BZ3 BZ2 ne23 s1 s2
 go_wp2
 go_loopw [8] (fun i wr=>∃ x : Int,i = .int .i64 x ∧ (0 ≤ x ∧ x ≤ l.length) ∧ Aside0 (∃ V,V.length = 16 ∧ Arr wr g3 V ∧ wordsF (l.drop x.toNat) x.toNat V = wordsL l) ∧ Aside0 (Below w.heap.size w wr) ∧ Aside0 (wr.there g2 0 Z.length))
  (fun i _=>l.length - (intOf i).toNat)
 case atStart=>exact ⟨0,rfl,⟨by omega,by omega⟩,⟨zero16,rfl,HA0.out,rfl⟩,HB0,HTZ⟩
 case round=>
  obtain ⟨x,rfl,⟨hx0,hx1⟩,HV,HB,HT⟩:=hrel;obtain ⟨V,hVl,hV,hW⟩:=HV.out
  by_cases hlt : x < l.length
  rotate_left
  ·have d0 : decide (x < (l.length : Int)) = false:=decide_eq_false hlt
   have hxe : x = l.length:=by omega
   rw [List.drop_eq_nil_of_le (by omega),wordsF] at hW;subst hW;obtain ⟨L,hL⟩ : ∃ L,L = (wordsL l).map (Value.int .u64):=⟨_,rfl⟩
   have hLl : L.length = 16:=by rw [hL,List.length_map];exact hVl
   have hLo : ∀ v ∈ L,v.oneCell' = true:=by rw [hL];exact one_of_map _
   have hR:=hV.range;rw [← hL] at hR;have HL:=am hL;have HR:=am hR;have HLl:=am hLl;have HLo:=am hLo;clear hR hLl hLo hV hL hVl HV
   go_wp2_with (first
    | ((with_reducible refine gate_dst (N:=26) rfl ?_);refine wpList_load_mid rfl 91 _ rfl g3 0 rfl L _ HR.out Tryd.underlying91 rfl (by rw [HLl.out];exact size_of info_a16) ?_)
    | ((with_reducible refine gate_store (t:=91) (p:=2) rfl ?_);refine wpList_store_mid rfl 91 _ _ rfl g2 0 L.toArray rfl rfl (by rw [List.size_toArray,HLl.out,← HZl.out];exact HT.out) (by rw [List.size_toArray,HLl.out];exact size_of info_a16) (all_oneCell_toArray HLo.out) ?_))
   have BR:=World.rangeAt_setCells_same wr g2 0 L (by rw [HLl.out,← HZl.out];exact HT.out);have hres:=run_loadVar_mid (P:=Tryd.prog) (wr.setCells g2 0 L) g2 0 91 L _ BR Tryd.underlying91 rfl (by rw [HLl.out];exact size_of info_a16);refine bodyPost_ret (v:= .agg L.toArray) (results_cell rfl _ rfl hres) rfl ?_;exact ⟨by rw [HL.out],below_setCells g2 S1.out L 0 wr HB.out⟩
  have d0 : decide (x < (l.length : Int)) = true:=decide_eq_true hlt;obtain ⟨k,hk⟩ : ∃ k : Nat,k = x.toNat:=⟨_,rfl⟩
  have hkl : k < l.length:=by omega
  obtain ⟨ad,rfl,hcell⟩:=C_cell (Kd.C_below HC.out HB.out) k hkl rfl;have hc:=HBy.out (l.getD k 0) (by rw [List.getD_eq_getElem?_getD,List.getElem?_eq_getElem hkl];exact List.getElem_mem hkl);rw [← hk,List.drop_eq_getElem_cons hkl,wordsF,show l[k] = l.getD k 0 by rw [List.getD_eq_getElem?_getD,List.getElem?_eq_getElem hkl];rfl] at hW;obtain ⟨c,hcc⟩ : ∃ c,c = l.getD k 0:=⟨_,rfl⟩;rw [← hcc] at hcell hc hW;rw [hk] at hcell;obtain ⟨y,hy⟩ : ∃ y,x.tdiv 8 = y:=⟨_,rfl⟩;obtain ⟨z,hz⟩ : ∃ z,x.tmod 8 = z:=⟨_,rfl⟩
  have hy' : y = x / 8:=by rw [← hy,Int.tdiv_eq_ediv_of_nonneg hx0]
  have hz' : z = x % 8:=by rw [← hz,Int.tmod_eq_emod_of_nonneg hx0]
  obtain ⟨n8,hn8⟩ : ∃ n,8 * z = n:=⟨_,rfl⟩
  have y0 : 0 ≤ y:=by omega
  have y1 : y < 16:=by omega
  have yw : wrap64 y = y:=by unfold wrap64;omega
  have zw : wrap64 z = z:=by unfold wrap64;omega
  have nw : wrap64 n8 = n8:=by unfold wrap64;omega
  have n8a : 0 ≤ n8:=by omega
  have n8b : n8 ≤ 64:=by omega
  have wc : IntKind.u64.wrap c = c:=by rw [IntKind.wrap_u64];omega
  have yk : y.toNat = k / 8:=by omega
  have nk : n8 = 8 * ((k % 8 : Nat) : Int):=by omega
  obtain ⟨sv,hsv⟩ : ∃ v,shl .u64 c n8 = v:=⟨_,rfl⟩;have hsv1 : IntKind.u64.wrap (c * 2 ^ min n8.toNat 64) = sv:=hsv;have hsv2 : IntKind.u64.wrap (c * 2 ^ n8.toNat) = sv:=shl_small hsv n8b;have s0:=hV.cell y.toNat (by omega);have s1:=hV.frozen y.toNat (by omega);obtain ⟨v_p,hv_p⟩ : ∃ v,v = V.getD y.toNat 0:=⟨_,rfl⟩;rw [← hv_p] at s0;have Hv:=am hv_p;have HVV:=am hV;have HW:=am hW;have HCC:=am hcc;have HVl:=am hVl;have HCb:=am hc;have Yk:=am yk;have Nk:=am nk;have Hk:=am hk;have Hsv:=am hsv;clear hv_p hV hW hcc hVl HV hc hsv yk nk hk hy' hz' hkl
  go_upto_region 5 with (fail)
  refine start_ (n:=13) (S:=fun w'=>w'.cell? ⟨g3,y.toNat,none⟩ = some (.int .u64 v_p) ∧ w'.frozen? ⟨g3,y.toNat,none⟩ = false) (ds:=[12]) (bl 13 0) (by kernel_rfl) rfl rfl ⟨s0,s1⟩ (fun hHeld=>?_);refine with_tabW blake_words_r5.tab blake_words_r5.bits (fun HT_ HW_=>?_);refine p_ HT_ 0 (some 13) blake_words_r5.l0 ?_;refine p_ HT_ 1 (some 14) blake_words_r5.l1 ?_;refine p_ HT_ 2 (some 15) blake_words_r5.l2 ?_;refine tk HT_ HW_ hHeld 3 (some 16) blake_words_r5.l3 (hr:=by intro w' hs_;obtain ⟨s0,s1⟩:=hs_;go_simp;with_reducible rfl) (h:=?_);refine p_ HT_ 4 (some 17) blake_words_r5.l4 ?_;refine p_ HT_ 5 (some 18) blake_words_r5.l5 ?_;refine p_ HT_ 6 (some 19) blake_words_r5.l6 ?_;refine p_ HT_ 7 (some 20) blake_words_r5.l7 ?_;refine p_ HT_ 8 (some 21) blake_words_r5.l8 ?_;refine p_ HT_ 9 (some 22) blake_words_r5.l9 ?_;refine p_ HT_ 10 (some 23) blake_words_r5.l10 ?_;refine p_ HT_ 11 (some 24) blake_words_r5.l11 ?_;refine last_ (i:=12) (N:=none) blake_words_r5.l12 rfl rfl (one_of HT_.out (by kernel_rfl)) (by decide) (fun K hK=>?_);clear hHeld;refine skip_ (w1:=World.setCell wr.drew ⟨g3,y.toNat,none⟩ (.int .u64 (Go.bits .or .u64 v_p sv))) (by rfl) rfl ?_ ?_
  ·go_simp
  refine hK.out _ _ ?_;clear hK K;refine done_ (done_of HT_.out (by kernel_rfl)) ?_;clear s0 s1 HT_ HW_;have n0_:=HVV.out.drew.set y.toNat (by rw [HVl.out];omega) (Go.bits .or .u64 v_p sv);rw [show V.set y.toNat (Go.bits .or .u64 v_p sv) = orAt V k c by rw [← Hsv.out,Nk.out,Hv.out,Yk.out];rfl] at n0_;have n1_:=(below_drew HB.out).setCell (p:=⟨g3,y.toNat,none⟩) S2.out (.int .u64 (Go.bits .or .u64 v_p sv));have n2_:=there_setCell ((World.there_drew _ _ _ _).2 HT.out) g3 y.toNat (.int .u64 (Go.bits .or .u64 v_p sv));generalize World.setCell _ _ _ = wn at n0_ n1_ n2_ ⊢;have N0:=am n0_;have N1:=am n1_;have N2:=am n2_;clear n0_ n1_ n2_
  have xw : wrap64 (x + 1) = x + 1:=by unfold wrap64;omega
  go_wp2
  have hk:=Hk.out;exact ⟨⟨x + 1,by first | rfl | (rw [xw]) | (simp [xw]),⟨by omega,by omega⟩,⟨orAt V k c,by rw [orAt_length];exact HVl.out,N0.out,by rw [show (x + 1).toNat = k + 1 by omega];exact HW.out⟩,N1,N2⟩,by simp [intOf];omega⟩
end Go.Proofs.YtilckocpgififaaDoor.G
