/- A call's digest, the code's and the reference's: that of its bytes. -/
import Derived.Test.YtilckocpgififaaDoorScRBlock
import Derived.Test.YtilckocpgififaaDoorScHDecode
import Derived.Test.YtilckocpgififaaDoorScGx7
import Derived.Test.YtilckocpgififaaDoorScBArrB
import Derived.Test.YtilckocpgififaaDoorScHStep
import Derived.Test.YtilckocpgififaaDoorScHSameCall
namespace Go.Proofs.YtilckocpgififaaDoor.G
open Go.RowKit Go.Shelf Go.Proofs.YtilckocpgififaaDoorW.PrintWords Go.Proofs.YtilckocpgififaaDoorW.PrintLast Go.Proofs.YtilckocpgififaaDoorW.PrintMore Go.Proofs.YtilckocpgififaaDoor.PNum
set_option linter.unusedVariables false
set_option linter.unusedSimpArgs false
def callL (c : S24) (A : Option Addr) (n : Nat) : List Value:=[.int .i64 c.f0,.int .i64 c.f1,.int .i64 c.f2,.slice A c.f3.length n]
def bytesC (c : S24) : List Int:=if okT 3 c = true then encC 3 c else []
def errC (c : S24) : Int:=if okT 3 c = true then 0 else 1
def sumV (l : List Int) : List Value:=(keyedL [] l).map (Value.int .u8)
theorem bytesC_is (c : S24) : IsBytes (bytesC c) ∧ (bytesC c).length ≤ 3816:=by
 unfold bytesC
 by_cases h : okT 3 c = true
 rotate_left
 ·rw [if_neg h];exact ⟨(fun c hc=>by cases hc),Nat.zero_le _⟩
 rw [if_pos h];exact ⟨encC_bytes 3 c,Nat.le_trans (encC_most 3 c h) (mostC_small (by decide))⟩
theorem enc_own (c : S24) : code_EncodeCall.f 50 c.f0 c.f1 c.f2 c.f3 = some (bytesC c,errC c):=by
 rw [encode_tells c 50 (by decide)]
 unfold bytesC errC
 by_cases h : okT 3 c = true
 ·rw [if_pos h,if_pos h,if_pos h]
 rw [if_neg h,if_neg h,if_neg h]
theorem enc_ref (c : S24) : althingref7_EncodeCall.f 200 c.f0 c.f1 c.f2 c.f3 = some (bytesC c,errC c):=by
 unfold althingref7_EncodeCall.f bytesC errC
 rw [risCall_tells c 200 (by decide),Option.bind_some]
 by_cases h : okT 3 c = true
 rotate_left
 ·rw [if_neg h,if_neg h,if_neg h]
 rw [if_pos h,if_pos h,if_pos h,raw_tells 3 (by decide) c h 200 (by decide)];rfl
theorem sumV_one (l : List Int) : ∀ v ∈ sumV l,v.oneCell' = true:=one_of_map _
theorem sumV_length (l : List Int) : (sumV l).length = 32:=by unfold sumV;rw [List.length_map,keyedL_length]
set_option maxRecDepth 100000 in
set_option maxHeartbeats 8000000 in
theorem codeSum_calls (c : S24) (A : Option Addr) (n : Nat) (w : World) (hC : Kd.C k24 w A c.f3.length c.f3) (hc : c.f3.length ≤ n) (hT : Spaces w) :
 Calls Tryd.prog 7 #[.agg (callL c A n).toArray] w fun e w'=>e = .returned (.agg (sumV (bytesC c)).toArray) ∧ Below w.heap.size w w':=by
 obtain ⟨L,hL⟩ : ∃ L,L = callL c A n:=⟨_,rfl⟩;obtain ⟨p,hp⟩ : ∃ p,p = bytesC c:=⟨_,rfl⟩;have hpB:=bytesC_is c;rw [← hp] at hpB
 have HE : Aside0 (∀ w',Below w.heap.size w w' → Calls Tryd.prog 6 #[.agg L.toArray] w' fun e w''=>∃ v0 : Value,e = .returned (.tuple #[v0,.int .i64 (errC c)]) ∧ Kd.R (Kd.int .u8) 5 w'' w'.heap.size (fun _=>True) v0 p ∧ Below w'.heap.size w' w''):=⟨fun w' hb=>by
  rw [hL,hp];exact code_EncodeCall.calls 50 _ _ _ A n _ _ _ w' (Kd.C_below hC hb) hc (enc_own c)⟩
 obtain ⟨Z,hZ⟩ : ∃ Z,Z = zero32.map (Value.int .u8):=⟨_,rfl⟩;have HZl : Aside0 (Z.length = 32):=⟨by rw [hZ];rfl⟩
 have hal : ∀ w,(zeroValue 31).run Tryd.prog w = .ok (.agg Z.toArray) w:=fun w=>by rw [hZ];exact zero_run info_a32 w
 obtain ⟨X,hX⟩ : ∃ X,X = sumV p:=⟨_,rfl⟩;have HXl : Aside0 (X.length = 32):=⟨by rw [hX];exact sumV_length p⟩;have HXo : Aside0 (∀ v ∈ X,v.oneCell' = true):=⟨by rw [hX];exact sumV_one p⟩;have HLl : Aside0 ((Tryd.prog.info? 24).map (·.size) = some L.length):=⟨by rw [hL];exact info_call⟩;have HX:=am hX;have HPB:=am hpB;have HT:=am hT;rw [← hp,← hX,← hL];clear hX hZ hL hp hpB hC hc hT;go_enter Tryd.func7,Tryd.ntmps7
 go_upto_region 1 with (first
  | ((with_reducible refine gate_dst (N:=1) rfl ?_);refine box_event ?hg (N:=1) ?hd (cs:=L.toArray) (t:=24) ?hr ?_;(case hd=>rfl);(case hg=>rfl);(case hr=>first | (go_simp;done) | (go_simp;rfl));intro g1 hg_ w1 hbox_ hb_;have L1:=am (rangeAt_box hbox_);have B1:=am hb_;have Z1:=am (blk_lt hbox_);clear hg_ hbox_ hb_)
  | ((with_reducible refine gate_dst (N:=2) rfl ?_);refine box_event ?hg (N:=2) ?hd (cs:=Z.toArray) (t:=31) ?hr ?_;(case hd=>rfl);(case hg=>rfl);(case hr=>first | (simp [execOp,Instr.alloc,hal,newVar,newRow,go_sem];done) | (simp [execOp,Instr.alloc,hal,newVar,newRow,go_sem];rfl));intro g2 hg_ w2 hbox_ hb_;have G2:=am hg_;have BZ2:=am (there_box hbox_);have HB2:=am hb_;have LT2:=am (blk_lt hbox_);clear hg_ hbox_ hb_))
 have hR1:=rangeAt_below L1.out HB2.out Z1.out;have HT2:=am (below_step B1.out HB2.out)
 go_wp2_with (first
  | ((with_reducible refine gate_dst (N:=6) rfl ?_);refine wpList_load_mid rfl 24 _ rfl g1 0 rfl L _ hR1 Tryd.underlying24 rfl HLl.out ?_)
  | (go_at_call 6;go_loud ((with_reducible refine (HE.out _ HT2.out).mono ?_);rintro e w3 ⟨v3,rfl,hr_,hb_⟩;obtain ⟨A3,c3,hv_,hc_,hC_⟩:=Kd.R_reads hr_;subst hv_;have Hc3:=am hc_;have HC3:=am hC_;have HB3:=am hb_;clear hr_ hc_ hC_ hb_))
  | ((with_reducible refine gate_dst (N:=11) rfl ?_);refine slice_event ?hg (N:=11) ?hd (cs:=#[.slice A3 p.length c3]) (t:=26) (n:=1) (c:=1) ?hr ?_;(case hd=>rfl);(case hg=>rfl);(case hr=>first | (go_simp;done) | (go_simp;rfl));intro g4 hg_ w4 hbox_ hb_;have BX4:=am hbox_;have HB4:=am hb_;clear hg_ hbox_ hb_)
  | (go_at_call 19;go_loud (have hs_:=sum_one A3 c3 p w3 HC3.out Hc3.out (by have:=HPB.out.2;omega) HPB.out.1 (HT.out.below (below_step HT2.out HB3.out)) w4 g4 HB4.out BX4.out;rw [show (keyedL [] p).map (Value.int .u8) = X from HX.out.symm] at hs_;(with_reducible refine hs_.mono ?_);clear hs_;rintro e w5 ⟨rfl,hb_⟩;have HB5:=am (below_step (below_step HB3.out HB4.out) hb_);have BZ5:=am (there_of_below BZ2.out (below_step (below_step HB3.out HB4.out) hb_) LT2.out);clear hb_))
  | ((with_reducible refine gate_store (t:=31) (p:=2) rfl ?_);refine wpList_store_mid rfl 31 _ _ rfl g2 0 X.toArray rfl rfl (by rw [List.size_toArray,HXl.out,← HZl.out];exact BZ5.out) (by rw [List.size_toArray,HXl.out];exact size_of info_a32) (all_oneCell_toArray HXo.out) ?_))
 have BR:=World.rangeAt_setCells_same w5 g2 0 X (by rw [HXl.out,← HZl.out];exact BZ5.out);have hres:=run_loadVar_mid (P:=Tryd.prog) (w5.setCells g2 0 X) g2 0 31 X _ BR Tryd.underlying31 rfl (by rw [HXl.out];exact size_of info_a32);refine bodyPost_ret (v:= .agg X.toArray) (results_cell rfl _ rfl hres) rfl ?_;exact ⟨rfl,below_setCells g2 (by have:=G2.out;have:=B1.out.size;omega) X 0 w5 (below_step HT2.out HB5.out)⟩
set_option maxRecDepth 100000 in
set_option maxHeartbeats 8000000 in
theorem refCodeSum_calls (c : S24) (A : Option Addr) (n : Nat) (w : World) (hC : Kd.C k24 w A c.f3.length c.f3) (hc : c.f3.length ≤ n) :
 Calls Tryd.prog 17 #[.agg (callL c A n).toArray] w fun e w'=>e = .returned (.agg (sumV (bytesC c)).toArray) ∧ Below w.heap.size w w':=by
 obtain ⟨L,hL⟩ : ∃ L,L = callL c A n:=⟨_,rfl⟩;obtain ⟨p,hp⟩ : ∃ p,p = bytesC c:=⟨_,rfl⟩;have hpB:=bytesC_is c;rw [← hp] at hpB
 have HE : Aside0 (∀ w',Below w.heap.size w w' → Calls Tryd.prog 10 #[.agg L.toArray] w' fun e w''=>∃ v0 : Value,e = .returned (.tuple #[v0,.int .i64 (errC c)]) ∧ Kd.R (Kd.int .u8) 5 w'' w'.heap.size (fun _=>True) v0 p ∧ Below w'.heap.size w' w''):=⟨fun w' hb=>by
  rw [hL,hp];exact althingref7_EncodeCall.calls 200 _ _ _ A n _ _ _ w' (Kd.C_below hC hb) hc (enc_ref c)⟩
 obtain ⟨Z,hZ⟩ : ∃ Z,Z = zero32.map (Value.int .u8):=⟨_,rfl⟩;have HZl : Aside0 (Z.length = 32):=⟨by rw [hZ];rfl⟩
 have hal : ∀ w,(zeroValue 31).run Tryd.prog w = .ok (.agg Z.toArray) w:=fun w=>by rw [hZ];exact zero_run info_a32 w
 obtain ⟨X,hX⟩ : ∃ X,X = sumV p:=⟨_,rfl⟩;have HXl : Aside0 (X.length = 32):=⟨by rw [hX];exact sumV_length p⟩;have HXo : Aside0 (∀ v ∈ X,v.oneCell' = true):=⟨by rw [hX];exact sumV_one p⟩;have HLl : Aside0 ((Tryd.prog.info? 24).map (·.size) = some L.length):=⟨by rw [hL];exact info_call⟩;have HX:=am hX;have HPB:=am hpB;rw [← hp,← hX,← hL];clear hX hZ hL hp hpB hC hc;go_enter Tryd.func17,Tryd.ntmps17
 go_upto_region 1 with (first
  | ((with_reducible refine gate_dst (N:=1) rfl ?_);refine box_event ?hg (N:=1) ?hd (cs:=L.toArray) (t:=24) ?hr ?_;(case hd=>rfl);(case hg=>rfl);(case hr=>first | (go_simp;done) | (go_simp;rfl));intro g1 hg_ w1 hbox_ hb_;have L1:=am (rangeAt_box hbox_);have B1:=am hb_;have Z1:=am (blk_lt hbox_);clear hg_ hbox_ hb_)
  | ((with_reducible refine gate_dst (N:=2) rfl ?_);refine box_event ?hg (N:=2) ?hd (cs:=Z.toArray) (t:=31) ?hr ?_;(case hd=>rfl);(case hg=>rfl);(case hr=>first | (simp [execOp,Instr.alloc,hal,newVar,newRow,go_sem];done) | (simp [execOp,Instr.alloc,hal,newVar,newRow,go_sem];rfl));intro g2 hg_ w2 hbox_ hb_;have G2:=am hg_;have BZ2:=am (there_box hbox_);have HB2:=am hb_;have LT2:=am (blk_lt hbox_);clear hg_ hbox_ hb_))
 have hR1:=rangeAt_below L1.out HB2.out Z1.out;have HT2:=am (below_step B1.out HB2.out)
 go_wp2_with (first
  | ((with_reducible refine gate_dst (N:=6) rfl ?_);refine wpList_load_mid rfl 24 _ rfl g1 0 rfl L _ hR1 Tryd.underlying24 rfl HLl.out ?_)
  | (go_at_call 10;go_loud ((with_reducible refine (HE.out _ HT2.out).mono ?_);rintro e w3 ⟨v3,rfl,hr_,hb_⟩;obtain ⟨A3,c3,hv_,hc_,hC_⟩:=Kd.R_reads hr_;subst hv_;have Hc3:=am hc_;have HC3:=am hC_;have HB3:=am hb_;clear hr_ hc_ hC_ hb_))
  | (go_at_call 8;go_loud (have hs_:=ref_Sum.calls A3 c3 p w3 HC3.out Hc3.out (by have:=HPB.out.2;omega) HPB.out.1;rw [show (keyedL [] p).map (Value.int .u8) = X from HX.out.symm] at hs_;(with_reducible refine hs_.mono ?_);clear hs_;rintro e w5 ⟨rfl,hb_⟩;have HB5:=am (below_step HB3.out hb_);have BZ5:=am (there_of_below BZ2.out (below_step HB3.out hb_) LT2.out);clear hb_))
  | ((with_reducible refine gate_store (t:=31) (p:=2) rfl ?_);refine wpList_store_mid rfl 31 _ _ rfl g2 0 X.toArray rfl rfl (by rw [List.size_toArray,HXl.out,← HZl.out];exact BZ5.out) (by rw [List.size_toArray,HXl.out];exact size_of info_a32) (all_oneCell_toArray HXo.out) ?_))
 have BR:=World.rangeAt_setCells_same w5 g2 0 X (by rw [HXl.out,← HZl.out];exact BZ5.out);have hres:=run_loadVar_mid (P:=Tryd.prog) (w5.setCells g2 0 X) g2 0 31 X _ BR Tryd.underlying31 rfl (by rw [HXl.out];exact size_of info_a32);refine bodyPost_ret (v:= .agg X.toArray) (results_cell rfl _ rfl hres) rfl ?_;exact ⟨rfl,below_setCells g2 (by have:=G2.out;have:=B1.out.size;omega) X 0 w5 (below_step HT2.out HB5.out)⟩
end Go.Proofs.YtilckocpgififaaDoor.G
/- althingref7.DecodeCall: bytes as a call, or refused (laid by mkrefdecc.py). -/
namespace Go.Proofs.YtilckocpgififaaDoor.G
open Go.RowKit Go.Shelf Go.Proofs.YtilckocpgififaaDoorW.PrintWords Go.Proofs.YtilckocpgififaaDoorW.PrintLast Go.Proofs.YtilckocpgififaaDoorW.PrintMore Go.Proofs.YtilckocpgififaaDoor.PNum
set_option linter.unusedVariables false
set_option linter.unusedSimpArgs false
theorem decF_eq (l : List Int) : decF l = decF0 l:=by unfold decF decF0 keepC;cases takenF 4 l <;> rfl
set_option maxRecDepth 100000 in
set_option maxHeartbeats 16000000 in
theorem refDecode_calls (A : Option Addr) (c : Nat) (l : List Int) (w : World) (hC : Kd.C (Kd.int .u8) w A l.length l) (hc : l.length ≤ c) (hby : IsBytes l) (hsh : l.length < 140737488355328) :
 Calls Tryd.prog 12 #[.slice A l.length c] w fun e w'=>
  (∃ L : List Value,e = .returned (.tuple #[.agg L.toArray,.int .i64 (errOf (decF l))]) ∧ L.length = 4 ∧ (∀ v ∈ L,v.oneCell' = true) ∧ k24.M w' w.heap.size (fun _=>True) ((decF l).getD z24) L) ∧ Below w.heap.size w w':=by
 obtain ⟨Z,hZ⟩ : ∃ Z,Z = zeroC:=⟨_,rfl⟩
 have hZl : Z.length = 4:=by rw [hZ];rfl
 have hZo : ∀ v ∈ Z,v.oneCell' = true:=by rw [hZ];intro v hv;simp [zeroC] at hv;rcases hv with rfl | rfl | rfl | rfl <;> rfl
 have HAL : Aside0 (∀ w,(zeroValue 24).run Tryd.prog w = .ok (.agg Z.toArray) w):=⟨fun w=>by rw [hZ];exact zero_runC w⟩;have HBZ : Aside0 (∀ w,(Instr.build 24 #[]).run Tryd.prog w = .ok (.agg Z.toArray) w):=⟨fun w=>by rw [hZ];exact run_build w _ _ _ built_call⟩;have HZM : Aside0 (∀ w b ok,k24.M w b ok z24 Z):=⟨fun w b ok=>by rw [hZ];exact zero_M w b ok⟩;have HZl:=am hZl;have HZo:=am hZo;have HC:=am hC;have Hc:=am hc;have Hby:=am hby;have Hsh:=am hsh;obtain ⟨d,hd⟩ : ∃ d,d = readF 3 l:=⟨_,rfl⟩;have HD:=am hd;clear hZ hZl hZo hC hc hby hsh hd;go_enter Tryd.func12,Tryd.ntmps12
 go_upto_region 1 with ((with_reducible refine gate_dst (N:=2) rfl ?_);refine box_event ?hg (N:=2) ?hd (cs:=Z.toArray) (t:=24) ?hr ?_;(case hd=>rfl);(case hg=>rfl);(case hr=>first | (simp [execOp,Instr.alloc,HAL.out,newVar,newRow,go_sem];done) | (simp [execOp,Instr.alloc,HAL.out,newVar,newRow,go_sem];rfl));intro g2 hg_ w1 hbox_ hb_;have h_ : Lies w1 g2 Z:=Lies.box hbox_;have G2:=am hg_;have L21:=am h_;have B1:=am hb_;clear h_ hg_ hbox_ hb_)
 go_upto_region 2 with (first
  | (go_at_call 24;go_loud (have hr_:=reads_at 3 0 (by decide) (by decide) A c l w1 (Kd.C_below HC.out B1.out) Hc.out Hby.out Hsh.out;rw [← HD.out] at hr_;(with_reducible refine hr_.mono ?_);clear hr_;rintro e w2 ⟨⟨L4,rfl,hl_,ho_,hm_⟩,hb_⟩;have HL4:=am hl_;have HL4o:=am ho_;have HM:=am hm_;have B2:=am hb_;clear hl_ ho_ hm_ hb_))
  | ((with_reducible refine gate_dst (N:=4) rfl ?_);refine box_event ?hg (N:=4) ?hd (cs:=Z.toArray) (t:=24) ?hr ?_;(case hd=>rfl);(case hg=>rfl);(case hr=>first | (simp [execOp,Instr.alloc,HAL.out,newVar,newRow,go_sem];done) | (simp [execOp,Instr.alloc,HAL.out,newVar,newRow,go_sem];rfl));intro g4 hg_ w3 hbox_ hb_;have h_ : Lies w3 g4 Z:=Lies.box hbox_;have G4:=am hg_;have L43:=am h_;have B3:=am hb_;clear h_ hg_ hbox_ hb_)
  | ((with_reducible refine gate_store (t:=24) (p:=4) rfl ?_);refine wpList_store_mid rfl 24 _ _ rfl g4 0 L4.toArray rfl rfl (by rw [List.size_toArray,HL4.out,← HZl.out];exact L43.out.there) (by rw [List.size_toArray,HL4.out];exact info_call) (all_oneCell_toArray HL4o.out) ?_))
 have s1:=B1.out.size;have s2:=B2.out.size;have s3:=B3.out.size;have e2:=G2.out;have e4:=G4.out;have g2lt : g2 < w1.heap.size:=L21.out.lt (by rw [HZl.out];decide);have g4lt : g4 < w3.heap.size:=L43.out.lt (by rw [HZl.out];decide)
 have n4_ : Lies (w3.setCells g4 0 L4) g4 L4:=by have:=L43.out.splice 0 L4 (by rw [HL4.out,HZl.out];decide);rwa [List.take_zero,List.nil_append,List.drop_of_length_le (by rw [HL4.out,HZl.out];decide),List.append_nil] at this
 have k_ : Kept (fun k=>k = g4) w3 (w3.setCells g4 0 L4):=kept_setCells g4 0 L4 w3;have n2_:=((L21.out.below B2.out g2lt).below B3.out (by omega)).kept k_ (by rw [HZl.out];decide) (by show ¬ g2 = g4;omega);have b_ : Below w.heap.size w (w3.setCells g4 0 L4):=below_setCells' g4 (by omega) L4 0 w3 (below_step (below_step B1.out B2.out) B3.out)
 have m_ : k24.M (w3.setCells g4 0 L4) w1.heap.size (fun k=>w1.heap.size ≤ k ∧ k < w2.heap.size) d L4:=
  Kd.M_step (Kd.M_below (k24.M_mono (fun k h=>⟨h.2.1,h.2.2.1⟩) (k24.M_bound HM.out)) B3.out) (fun k ho hl=>k_.block k hl (by show ¬ k = g4;omega))
 have z_ : w3.heap.size ≤ (w3.setCells g4 0 L4).heap.size:=k_.size;generalize World.setCells _ _ _ _ = w5 at n4_ n2_ b_ m_ k_ z_ ⊢;have Hlt : Aside0 (w.heap.size ≤ g2 ∧ g2 < w1.heap.size ∧ w2.heap.size ≤ g4 ∧ w1.heap.size ≤ w2.heap.size ∧ g4 < w5.heap.size ∧ w2.heap.size ≤ w5.heap.size ∧ g2 < w5.heap.size ∧ w.heap.size ≤ w1.heap.size):=⟨by omega,by omega,by omega,by omega,by omega,by omega,by omega,by omega⟩;obtain ⟨A3,n3,hL4e,hn3,hC3⟩:=k24_open (k24.K_of_M m_)
 have HEN : Aside0 (Calls Tryd.prog 10 #[.agg L4.toArray] w5 fun e w''=>∃ v0 : Value,e = .returned (.tuple #[v0,.int .i64 (errC d)]) ∧ Kd.R (Kd.int .u8) 5 w'' w5.heap.size (fun _=>True) v0 (bytesC d) ∧ Below w5.heap.size w5 w''):=⟨by
  rw [hL4e];exact althingref7_EncodeCall.calls 200 _ _ _ A3 n3 _ _ _ w5 hC3 hn3 (enc_ref d)⟩
 have L45:=am n4_;have L25:=am n2_;have HB5:=am b_;have HM5:=am m_;clear n4_ k_ n2_ b_ m_ z_ s1 s2 s3 e2 e4 g2lt g4lt hL4e hn3 hC3;have hdr:=decF_read Hby.out;rw [← decF_eq,← HD.out] at hdr;have HDR:=am hdr;clear hdr;obtain ⟨rr,hrr⟩ : ∃ rr,okT 3 d = rr:=⟨_,rfl⟩;obtain ⟨ec,hec⟩ : ∃ e,errC d = e:=⟨_,rfl⟩;obtain ⟨p,hp⟩ : ∃ p,bytesC d = p:=⟨_,rfl⟩;rw [hec,hp] at HEN;have HRR:=am hrr;have HP:=am hp
 have hPB : IsBytes p:=by rw [← hp];exact (bytesC_is d).1
 have HPB:=am hPB
 cases rr with
 | false=>
   have hec1 : ec = 1:=by rw [← hec];unfold errC;rw [hrr];rfl
   subst hec1;have HNO : Aside0 (decF l = none):=⟨by rw [HDR.out,hrr,if_neg (by simp)]⟩;clear hrr hec hp hPB
   go_upto_region 4 with (first
    | ((with_reducible refine gate_dst (N:=10) rfl ?_);refine wpList_load_mid rfl 24 _ rfl g4 0 rfl L4 _ L45.out.range Tryd.underlying24 rfl (by rw [HL4.out];exact info_call) ?_)
    | (go_at_call 10;go_loud ((with_reducible refine (HEN.out).mono ?_);rintro e w6 ⟨v6,rfl,hr_,hb_⟩;obtain ⟨A6,c6,hv_,hc_,hC_⟩:=Kd.R_reads hr_;subst hv_;have L26:=am (L25.out.below hb_ (by have:=Hlt.out;omega));have L46:=am (L45.out.below hb_ (by have:=Hlt.out;omega));have HB6:=am (below_step HB5.out hb_);have B6:=am hb_;clear hr_ hb_ hc_ hC_)))
   go_wp2_with (first
    | ((with_reducible refine gate_dst (N:=23) rfl ?_);refine Kd.event_run (v:= .agg Z.toArray) (w1:=w6) rfl (build_run0' rfl (HBZ.out w6)) ?_)
    | ((with_reducible refine gate_store (t:=24) (p:=2) rfl ?_);refine wpList_store_mid rfl 24 _ _ rfl g2 0 Z.toArray rfl rfl (by rw [List.size_toArray,HZl.out,← HZl.out];exact L26.out.there) (by rw [List.size_toArray,HZl.out];exact info_call) (all_oneCell_toArray HZo.out) ?_))
   have BR:=World.rangeAt_setCells_same w6 g2 0 Z (by rw [HZl.out,← HZl.out];exact L26.out.there);have hres:=run_loadVar_mid (P:=Tryd.prog) (w6.setCells g2 0 Z) g2 0 24 Z _ BR Tryd.underlying24 rfl (by rw [HZl.out];exact info_call);refine bodyPost_ret (results_cell_tmp rfl _ rfl hres) rfl ?_;refine ⟨⟨Z,?_,HZl.out,HZo.out,?_⟩,below_setCells' g2 (by have:=Hlt.out;omega) Z 0 w6 HB6.out⟩
   ·rw [HNO.out];rfl
   ·rw [HNO.out];exact HZM.out _ _ _
 | true=>
   have hec1 : ec = 0:=by rw [← hec];unfold errC;rw [hrr];rfl
   subst hec1
   have hpe : p = encC 3 d:=by rw [← hp];unfold bytesC;rw [hrr];rfl
   have HPE:=am hpe;clear hec hp hPB hpe
   by_cases heq : p = l
   rotate_left
   ·have HNO : Aside0 (decF l = none):=⟨by rw [HDR.out,if_neg (fun h=>heq (by rw [HPE.out];exact h.2))]⟩;have hsn : ¬ (strOfNums p).toList = (strOfNums l).toList:=fun h=>heq ((strOf_inj HPB.out Hby.out).1 h);have sn1 : ((strOfNums p).toList == (strOfNums l).toList) = false:=beq_eq_false_iff_ne.mpr hsn;have sn2 : ((strOfNums p).toList != (strOfNums l).toList) = true:=bne_iff_ne.mpr hsn;clear hsn heq hrr
    go_upto_region 4 with (first
     | ((with_reducible refine gate_dst (N:=10) rfl ?_);refine wpList_load_mid rfl 24 _ rfl g4 0 rfl L4 _ L45.out.range Tryd.underlying24 rfl (by rw [HL4.out];exact info_call) ?_)
     | (go_at_call 10;go_loud ((with_reducible refine (HEN.out).mono ?_);rintro e w6 ⟨v6,rfl,hr_,hb_⟩;obtain ⟨A6,c6,hv_,hc_,hC_⟩:=Kd.R_reads hr_;subst hv_;have kc1:=Kd.C_string (P:=Tryd.prog) (A:=A6) (c:=c6) Tryd.underlying26 Tryd.underlying5 Tryd.underlying9 hC_;have kc2:=Kd.C_string (P:=Tryd.prog) (A:=A) (c:=c) Tryd.underlying26 Tryd.underlying5 Tryd.underlying9 (Kd.C_below HC.out (below_step HB5.out hb_));have L26:=am (L25.out.below hb_ (by have:=Hlt.out;omega));have L46:=am (L45.out.below hb_ (by have:=Hlt.out;omega));have HB6:=am (below_step HB5.out hb_);have B6:=am hb_;clear hr_ hb_ hc_ hC_)))
    go_wp2_with (first
     | ((with_reducible refine gate_dst (N:=23) rfl ?_);refine Kd.event_run (v:= .agg Z.toArray) (w1:=w6) rfl (build_run0' rfl (HBZ.out w6)) ?_)
     | ((with_reducible refine gate_store (t:=24) (p:=2) rfl ?_);refine wpList_store_mid rfl 24 _ _ rfl g2 0 Z.toArray rfl rfl (by rw [List.size_toArray,HZl.out,← HZl.out];exact L26.out.there) (by rw [List.size_toArray,HZl.out];exact info_call) (all_oneCell_toArray HZo.out) ?_))
    have BR:=World.rangeAt_setCells_same w6 g2 0 Z (by rw [HZl.out,← HZl.out];exact L26.out.there);have hres:=run_loadVar_mid (P:=Tryd.prog) (w6.setCells g2 0 Z) g2 0 24 Z _ BR Tryd.underlying24 rfl (by rw [HZl.out];exact info_call);refine bodyPost_ret (results_cell_tmp rfl _ rfl hres) rfl ?_;refine ⟨⟨Z,?_,HZl.out,HZo.out,?_⟩,below_setCells' g2 (by have:=Hlt.out;omega) Z 0 w6 HB6.out⟩
    ·rw [HNO.out];rfl
    ·rw [HNO.out];exact HZM.out _ _ _
   have HYES : Aside0 (decF l = some d):=⟨by rw [HDR.out,hrr,if_pos ⟨rfl,by rw [← HPE.out,heq]⟩]⟩;subst heq;clear hrr
   go_upto_region 5 with (first
    | ((with_reducible refine gate_dst (N:=10) rfl ?_);refine wpList_load_mid rfl 24 _ rfl g4 0 rfl L4 _ L45.out.range Tryd.underlying24 rfl (by rw [HL4.out];exact info_call) ?_)
    | (go_at_call 10;go_loud ((with_reducible refine (HEN.out).mono ?_);rintro e w6 ⟨v6,rfl,hr_,hb_⟩;obtain ⟨A6,c6,hv_,hc_,hC_⟩:=Kd.R_reads hr_;subst hv_;have kc1:=Kd.C_string (P:=Tryd.prog) (A:=A6) (c:=c6) Tryd.underlying26 Tryd.underlying5 Tryd.underlying9 hC_;have kc2:=Kd.C_string (P:=Tryd.prog) (A:=A) (c:=c) Tryd.underlying26 Tryd.underlying5 Tryd.underlying9 (Kd.C_below HC.out (below_step HB5.out hb_));have L26:=am (L25.out.below hb_ (by have:=Hlt.out;omega));have L46:=am (L45.out.below hb_ (by have:=Hlt.out;omega));have HB6:=am (below_step HB5.out hb_);have B6:=am hb_;clear hr_ hb_ hc_ hC_)))
   clear kc1 kc2
   go_wp2_with (first
    | ((with_reducible refine gate_dst (N:=24) rfl ?_);refine wpList_load_mid rfl 24 _ rfl g4 0 rfl L4 _ L46.out.range Tryd.underlying24 rfl (by rw [HL4.out];exact info_call) ?_)
    | ((with_reducible refine gate_store (t:=24) (p:=2) rfl ?_);refine wpList_store_mid rfl 24 _ _ rfl g2 0 L4.toArray rfl rfl (by rw [List.size_toArray,HL4.out,← HZl.out];exact L26.out.there) (by rw [List.size_toArray,HL4.out];exact info_call) (all_oneCell_toArray HL4o.out) ?_))
   have BR:=World.rangeAt_setCells_same w6 g2 0 L4 (by rw [HL4.out,← HZl.out];exact L26.out.there);have hres:=run_loadVar_mid (P:=Tryd.prog) (w6.setCells g2 0 L4) g2 0 24 L4 _ BR Tryd.underlying24 rfl (by rw [HL4.out];exact info_call);refine bodyPost_ret (results_cell_tmp rfl _ rfl hres) rfl ?_;refine ⟨⟨L4,?_,HL4.out,HL4o.out,?_⟩,below_setCells' g2 (by have:=Hlt.out;omega) L4 0 w6 HB6.out⟩
   ·rw [HYES.out];rfl
   ·rw [HYES.out];have h1 : k24.M w5 w.heap.size (fun k=>w1.heap.size ≤ k ∧ k < w2.heap.size) d L4:=k24.M_lower Hlt.out.2.2.2.2.2.2.2 HM5.out;exact k24.M_mono (fun _ _=>trivial) (Kd.M_step (Kd.M_below h1 B6.out) (fun k ho hl=>(kept_setCells g2 0 L4 w6).block k hl (by show ¬ k = g2;have:=Hlt.out;have:=ho.1;omega)))
end Go.Proofs.YtilckocpgififaaDoor.G
-- Laid by this session's own program gprint.py over the kit's print (given functions are proved by hand).
namespace Go.Proofs.YtilckocpgififaaDoor.G
open Go.RowKit Go.Proofs.YtilckocpgififaaDoorW.PrintWords Go.Proofs.YtilckocpgififaaDoorW.PrintLast Go.Proofs.YtilckocpgififaaDoorW.PrintMore
attribute [local go_sem] max2_int min2_int max_two min_two max_three min_three max_four min_four   -- for this text's walks alone
set_option linter.unusedVariables false
set_option linter.unusedSimpArgs false
-- NOT PRINTED: function 44 (althingref1_Reader_Row)
-- NOT PRINTED: function 24 (althingref7_read)
-- NOT PRINTED: function 12 (althingref7_DecodeCall)
/-! ### althingref7_SameCall: function 13 -/
mutual
def althingref7_SameCall.j0 : Nat → Bool → Int → Int → Int → List (S24) → Int → Int → Int → List (S24) → Option (Bool)
 | 0,_,_,_,_,_,_,_,_,_=>none
 | k + 1,x33,x316000,x316001,x316002,x316003,x317000,x317001,x317002,x317003=>if x33 = true then (some false) else (althingref7_SameCall.l0 k 0 x316000 x316001 x316002 x316003 x317000 x317001 x317002 x317003)
def althingref7_SameCall.l0 : Nat → Int → Int → Int → Int → List (S24) → Int → Int → Int → List (S24) → Option (Bool)
 | 0,_,_,_,_,_,_,_,_,_=>none
 | k + 1,x5,x316000,x316001,x316002,x316003,x317000,x317001,x317002,x317003=>if x5 < (x316003.length : Int) then (if 0 ≤ x5 then (if x5 < (x317003.length : Int) then ((althingref7_SameCall.f k ((rd_T24 x316003 x5).f0) ((rd_T24 x316003 x5).f1) ((rd_T24 x316003 x5).f2) ((rd_T24 x316003 x5).f3) ((rd_T24 x317003 x5).f0) ((rd_T24 x317003 x5).f1) ((rd_T24 x317003 x5).f2) ((rd_T24 x317003 x5).f3)).bind fun t319=>(if t319 = true then (althingref7_SameCall.l0 k (wrap64 (x5 + 1)) x316000 x316001 x316002 x316003 x317000 x317001 x317002 x317003) else (some false))) else (none)) else (none)) else (some true)
def althingref7_SameCall.f : Nat → Int → Int → Int → List (S24) → Int → Int → Int → List (S24) → Option (Bool)
 | 0,_,_,_,_,_,_,_,_=>none
 | k + 1,a0_0,a0_1,a0_2,l0_3,a1_0,a1_1,a1_2,l1_3=>if a0_0 = a1_0 then (if a0_1 = a1_1 then (if a0_2 = a1_2 then (althingref7_SameCall.j0 k ((l0_3.length : Int) != (l1_3.length : Int)) a0_0 a0_1 a0_2 l0_3 a1_0 a1_1 a1_2 l1_3) else (althingref7_SameCall.j0 k true a0_0 a0_1 a0_2 l0_3 a1_0 a1_1 a1_2 l1_3)) else (althingref7_SameCall.j0 k true a0_0 a0_1 a0_2 l0_3 a1_0 a1_1 a1_2 l1_3)) else (althingref7_SameCall.j0 k true a0_0 a0_1 a0_2 l0_3 a1_0 a1_1 a1_2 l1_3)
end
def althingref7_SameCall.T6 : Bool × List (List Nat × List Nat):=(true,[([],[]),([0],[0]),([],[]),([1,2],[1,2]),([3],[3]),([],[]),([5],[5]),([],[]),([6,7],[6,7]),([8],[8]),([4,9],[4,9]),([10],[10])])
def althingref7_SameCall.B6 : List Nat:=[0,1,0,7,15,0,32,0,224,480,1023,2047]
theorem althingref7_SameCall.tab6 : rtab .any (opsOf Tryd.f13 6) = althingref7_SameCall.T6:=by kernel_rfl
theorem althingref7_SameCall.bits6 : waitsOk althingref7_SameCall.T6.2 althingref7_SameCall.B6 = true:=by kernel_rfl
set_option maxHeartbeats 8000000 in
set_option maxRecDepth 100000 in
theorem althingref7_SameCall.calls (k : Nat) : ∀ (a0_0 : Int) (a0_1 : Int) (a0_2 : Int) (A0_3 : Option Addr) (c0_3 : Nat) (l0_3 : List (S24)) (a1_0 : Int) (a1_1 : Int) (a1_2 : Int) (A1_3 : Option Addr) (c1_3 : Nat) (l1_3 : List (S24)) (r : Bool) (w : World) (hr0_3 : Kd.C k24 w A0_3 l0_3.length l0_3) (hc0_3 : l0_3.length ≤ c0_3) (hr1_3 : Kd.C k24 w A1_3 l1_3.length l1_3) (hc1_3 : l1_3.length ≤ c1_3) (h : althingref7_SameCall.f k a0_0 a0_1 a0_2 l0_3 a1_0 a1_1 a1_2 l1_3 = some r),
 Calls Tryd.prog 13 #[.agg #[.int .i64 a0_0,.int .i64 a0_1,.int .i64 a0_2,.slice A0_3 l0_3.length c0_3],.agg #[.int .i64 a1_0,.int .i64 a1_1,.int .i64 a1_2,.slice A1_3 l1_3.length c1_3]] w fun e w'=>e = .returned (.bool r) ∧ Below w.heap.size w w':=by
 induction k using Nat.strongRecOn with
 | _ k ih=>
 intro a0_0 a0_1 a0_2 A0_3 c0_3 l0_3 a1_0 a1_1 a1_2 A1_3 c1_3 l1_3 r w hr0_3 hc0_3 hr1_3 hc1_3 h
 cases k with
 | zero=>exact absurd h (by simp [althingref7_SameCall.f])
 | succ k=>
 simp only [althingref7_SameCall.f] at h;have hu24:=Tryd.underlying24;have HR0_3:=am hr0_3;have HC0_3:=am hc0_3;clear hr0_3 hc0_3;have HR1_3:=am hr1_3;have HC1_3:=am hc1_3;clear hr1_3 hc1_3;have HB:=am (Below.refl w.heap.size w);have H : (if a0_0 = a1_0 then (if a0_1 = a1_1 then (if a0_2 = a1_2 then (althingref7_SameCall.j0 k ((l0_3.length : Int) != (l1_3.length : Int)) a0_0 a0_1 a0_2 l0_3 a1_0 a1_1 a1_2 l1_3) else (althingref7_SameCall.j0 k true a0_0 a0_1 a0_2 l0_3 a1_0 a1_1 a1_2 l1_3)) else (althingref7_SameCall.j0 k true a0_0 a0_1 a0_2 l0_3 a1_0 a1_1 a1_2 l1_3)) else (althingref7_SameCall.j0 k true a0_0 a0_1 a0_2 l0_3 a1_0 a1_1 a1_2 l1_3)) = some r:=h;clear h;have HC3:=am H;clear H;go_enter Tryd.func13,Tryd.ntmps13
 go_upto_region 1 with (first | ((with_reducible refine gate_dst (N:=2) rfl ?_);(try (refine gate_guard (by rfl) ?_;dsimp only));refine box_event ?hg (N:=2) ?hd (cs:=#[.int .i64 a0_0,.int .i64 a0_1,.int .i64 a0_2,.slice A0_3 l0_3.length c0_3]) (t:=24) ?hr ?_;(case hd=>rfl);(case hg=>rfl);(case hr=>first | (go_simp;done) | (go_simp;rfl));intro gb315 hg w4 hbox hb;have n0_:=am (below_step (by exact bq HB.out) hb);have n1_:=am (hbox);have n2_:=am ((by rw [hg];exact (below_size (by exact bq HB.out)) : w.heap.size ≤ gb315));have n3_:=am ((by rw [hg];exact (below_size (by exact bq HB.out)) : w.heap.size ≤ gb315));clear HB;have HB:=n0_;have BK315:=n1_;have GW315:=n2_;have GE315:=n3_;clear n0_ n1_ n2_ n3_;clear hb hbox hg) | ((with_reducible refine gate_dst (N:=3) rfl ?_);(try (refine gate_guard (by rfl) ?_;dsimp only));refine box_event ?hg (N:=3) ?hd (cs:=#[.int .i64 a1_0,.int .i64 a1_1,.int .i64 a1_2,.slice A1_3 l1_3.length c1_3]) (t:=24) ?hr ?_;(case hd=>rfl);(case hg=>rfl);(case hr=>first | (go_simp;done) | (go_simp;rfl));intro gb316 hg w5 hbox hb;have n0_:=am (blk_below (g:=gb315) (o:= .cells #[.int .i64 a0_0,.int .i64 a0_1,.int .i64 a0_2,.slice A0_3 l0_3.length c0_3] 24 (0,0)) (by exact kq BK315.out) hb);have n1_:=am (below_step (by repeat (first | (with_reducible first | exact HB.out | apply ba | apply bn | apply bd | refine tb_ ?_ GE315.out) | exact HB.out)) hb);have n2_:=am (hbox);have n3_:=am ((by rw [hg];exact (below_size (by repeat (first | (with_reducible first | exact HB.out | apply ba | apply bn | apply bd | refine tb_ ?_ GE315.out) | exact HB.out))) : w.heap.size ≤ gb316));have n4_:=am ((by rw [hg];exact (below_size (by repeat (first | (with_reducible first | exact HB.out | apply ba | apply bn | apply bd | refine tb_ ?_ GE315.out) | exact HB.out))) : w.heap.size ≤ gb316));have n5_:=am ((by rw [hg];exact Nat.ne_of_lt (blk_lt (g:=gb315) (o:= .cells #[.int .i64 a0_0,.int .i64 a0_1,.int .i64 a0_2,.slice A0_3 l0_3.length c0_3] 24 (0,0)) (by exact kq BK315.out)) : gb315 ≠ gb316));have n6_:=am ((by rw [hg];exact Nat.ne_of_gt (blk_lt (g:=gb315) (o:= .cells #[.int .i64 a0_0,.int .i64 a0_1,.int .i64 a0_2,.slice A0_3 l0_3.length c0_3] 24 (0,0)) (by exact kq BK315.out)) : gb316 ≠ gb315));clear BK315;clear HB;have BK315:=n0_;have HB:=n1_;have BK316:=n2_;have GW316:=n3_;have GE316:=n4_;have NB315_316:=n5_;have NB316_315:=n6_;clear n0_ n1_ n2_ n3_ n4_ n5_ n6_;clear hb hbox hg))
 (try simp only [Act.put,List.setIfInBounds_toArray,List.set_cons_zero,List.set_cons_succ])
 go_cut [33] (fun v33 wc=>∃ (kq : Nat) (x33_2 : Bool),v33 = .bool x33_2 ∧ Aside0 (althingref7_SameCall.j0 kq x33_2 a0_0 a0_1 a0_2 l0_3 a1_0 a1_1 a1_2 l1_3 = some r) ∧ Aside0 (kq ≤ k) ∧ Aside0 (wc.heap[gb315]? = some (.cells #[.int .i64 a0_0,.int .i64 a0_1,.int .i64 a0_2,(.slice A0_3 l0_3.length c0_3)] 24 (0,0))) ∧ Aside0 (wc.heap[gb316]? = some (.cells #[.int .i64 a1_0,.int .i64 a1_1,.int .i64 a1_2,(.slice A1_3 l1_3.length c1_3)] 24 (0,0))) ∧ Aside0 (Below w.heap.size w wc))
 case first=>
  have H:=HC3.out;clear HC3
  by_cases c6 : a0_0 = a1_0
  rotate_left
  ·rw [if_neg c6] at H;have c6b0 : (a0_0 == a1_0) = false:=beq_eq_false_iff_ne.mpr c6;have c6b1 : (a0_0 != a1_0) = true:=bne_iff_ne.mpr c6
   (first | rw [c6b0] | (simp only [i64_w,i32_w];rw [c6b0]) | skip)
   have H':=am H;clear H;have hnb18:=NB315_316.out;have hnc18:=NB316_315.out;have hcz19_0 : w5.cell? ⟨gb315,0,none⟩ = some (.int .i64 a0_0):=(blk_cell BK315.out 0).trans rfl;have hcz19_1 : w5.cell? ⟨gb315,1,none⟩ = some (.int .i64 a0_1):=(blk_cell BK315.out 1).trans rfl;have hcz19_2 : w5.cell? ⟨gb315,2,none⟩ = some (.int .i64 a0_2):=(blk_cell BK315.out 2).trans rfl;have hcz19_3 : w5.cell? ⟨gb315,3,none⟩ = some (.slice A0_3 l0_3.length c0_3):=(blk_cell BK315.out 3).trans rfl;have hfz19_0:=blk_frozen BK315.out 0;have hfz19_1:=blk_frozen BK315.out 1;have hfz19_2:=blk_frozen BK315.out 2;have hfz19_3:=blk_frozen BK315.out 3;have hcz20_0 : w5.cell? ⟨gb316,0,none⟩ = some (.int .i64 a1_0):=(blk_cell BK316.out 0).trans rfl;have hcz20_1 : w5.cell? ⟨gb316,1,none⟩ = some (.int .i64 a1_1):=(blk_cell BK316.out 1).trans rfl;have hcz20_2 : w5.cell? ⟨gb316,2,none⟩ = some (.int .i64 a1_2):=(blk_cell BK316.out 2).trans rfl;have hcz20_3 : w5.cell? ⟨gb316,3,none⟩ = some (.slice A1_3 l1_3.length c1_3):=(blk_cell BK316.out 3).trans rfl;have hfz20_0:=blk_frozen BK316.out 0;have hfz20_1:=blk_frozen BK316.out 1;have hfz20_2:=blk_frozen BK316.out 2;have hfz20_3:=blk_frozen BK316.out 3
   go_wp2
   go_meet
   case rel=>exact ⟨_,(true),(by first | rfl | (simp;done) | (simp [*];done)),H',⟨by first | omega | exact Nat.le_refl _⟩,⟨by exact kq BK315.out⟩,⟨by exact kq BK316.out⟩,⟨by repeat (first | (with_reducible first | exact HB.out | apply ba | apply bn | apply bd | refine tb_ ?_ GE315.out | refine tb_ ?_ GE316.out) | exact HB.out)⟩⟩
  rw [if_pos c6] at H;have c6b0 : (a0_0 == a1_0) = true:=beq_iff_eq.mpr c6;have c6b1 : (a0_0 != a1_0) = false:=bne_eq_false_iff_eq.mpr c6;clear c6
  (first | rw [c6b0] | (simp only [i64_w,i32_w];rw [c6b0]) | skip)
  by_cases c7 : a0_1 = a1_1
  rotate_left
  ·rw [if_neg c7] at H;have c7b0 : (a0_1 == a1_1) = false:=beq_eq_false_iff_ne.mpr c7;have c7b1 : (a0_1 != a1_1) = true:=bne_iff_ne.mpr c7;have H':=am H;clear H;have hnb15:=NB315_316.out;have hnc15:=NB316_315.out;have hcz16_0 : w5.cell? ⟨gb315,0,none⟩ = some (.int .i64 a0_0):=(blk_cell BK315.out 0).trans rfl;have hcz16_1 : w5.cell? ⟨gb315,1,none⟩ = some (.int .i64 a0_1):=(blk_cell BK315.out 1).trans rfl;have hcz16_2 : w5.cell? ⟨gb315,2,none⟩ = some (.int .i64 a0_2):=(blk_cell BK315.out 2).trans rfl;have hcz16_3 : w5.cell? ⟨gb315,3,none⟩ = some (.slice A0_3 l0_3.length c0_3):=(blk_cell BK315.out 3).trans rfl;have hfz16_0:=blk_frozen BK315.out 0;have hfz16_1:=blk_frozen BK315.out 1;have hfz16_2:=blk_frozen BK315.out 2;have hfz16_3:=blk_frozen BK315.out 3;have hcz17_0 : w5.cell? ⟨gb316,0,none⟩ = some (.int .i64 a1_0):=(blk_cell BK316.out 0).trans rfl;have hcz17_1 : w5.cell? ⟨gb316,1,none⟩ = some (.int .i64 a1_1):=(blk_cell BK316.out 1).trans rfl;have hcz17_2 : w5.cell? ⟨gb316,2,none⟩ = some (.int .i64 a1_2):=(blk_cell BK316.out 2).trans rfl;have hcz17_3 : w5.cell? ⟨gb316,3,none⟩ = some (.slice A1_3 l1_3.length c1_3):=(blk_cell BK316.out 3).trans rfl;have hfz17_0:=blk_frozen BK316.out 0;have hfz17_1:=blk_frozen BK316.out 1;have hfz17_2:=blk_frozen BK316.out 2;have hfz17_3:=blk_frozen BK316.out 3
   go_wp2
   go_meet
   case rel=>exact ⟨_,(true),(by first | rfl | (simp;done) | (simp [*];done)),H',⟨by first | omega | exact Nat.le_refl _⟩,⟨by exact kq BK315.out⟩,⟨by exact kq BK316.out⟩,⟨by repeat (first | (with_reducible first | exact HB.out | apply ba | apply bn | apply bd | refine tb_ ?_ GE315.out | refine tb_ ?_ GE316.out) | exact HB.out)⟩⟩
  rw [if_pos c7] at H;have c7b0 : (a0_1 == a1_1) = true:=beq_iff_eq.mpr c7;have c7b1 : (a0_1 != a1_1) = false:=bne_eq_false_iff_eq.mpr c7;clear c7
  by_cases c8 : a0_2 = a1_2
  rotate_left
  ·rw [if_neg c8] at H;have c8b0 : (a0_2 == a1_2) = false:=beq_eq_false_iff_ne.mpr c8;have c8b1 : (a0_2 != a1_2) = true:=bne_iff_ne.mpr c8;have H':=am H;clear H;have hnb12:=NB315_316.out;have hnc12:=NB316_315.out;have hcz13_0 : w5.cell? ⟨gb315,0,none⟩ = some (.int .i64 a0_0):=(blk_cell BK315.out 0).trans rfl;have hcz13_1 : w5.cell? ⟨gb315,1,none⟩ = some (.int .i64 a0_1):=(blk_cell BK315.out 1).trans rfl;have hcz13_2 : w5.cell? ⟨gb315,2,none⟩ = some (.int .i64 a0_2):=(blk_cell BK315.out 2).trans rfl;have hcz13_3 : w5.cell? ⟨gb315,3,none⟩ = some (.slice A0_3 l0_3.length c0_3):=(blk_cell BK315.out 3).trans rfl;have hfz13_0:=blk_frozen BK315.out 0;have hfz13_1:=blk_frozen BK315.out 1;have hfz13_2:=blk_frozen BK315.out 2;have hfz13_3:=blk_frozen BK315.out 3;have hcz14_0 : w5.cell? ⟨gb316,0,none⟩ = some (.int .i64 a1_0):=(blk_cell BK316.out 0).trans rfl;have hcz14_1 : w5.cell? ⟨gb316,1,none⟩ = some (.int .i64 a1_1):=(blk_cell BK316.out 1).trans rfl;have hcz14_2 : w5.cell? ⟨gb316,2,none⟩ = some (.int .i64 a1_2):=(blk_cell BK316.out 2).trans rfl;have hcz14_3 : w5.cell? ⟨gb316,3,none⟩ = some (.slice A1_3 l1_3.length c1_3):=(blk_cell BK316.out 3).trans rfl;have hfz14_0:=blk_frozen BK316.out 0;have hfz14_1:=blk_frozen BK316.out 1;have hfz14_2:=blk_frozen BK316.out 2;have hfz14_3:=blk_frozen BK316.out 3
   go_wp2
   go_meet
   case rel=>exact ⟨_,(true),(by first | rfl | (simp;done) | (simp [*];done)),H',⟨by first | omega | exact Nat.le_refl _⟩,⟨by exact kq BK315.out⟩,⟨by exact kq BK316.out⟩,⟨by repeat (first | (with_reducible first | exact HB.out | apply ba | apply bn | apply bd | refine tb_ ?_ GE315.out | refine tb_ ?_ GE316.out) | exact HB.out)⟩⟩
  rw [if_pos c8] at H;have c8b0 : (a0_2 == a1_2) = true:=beq_iff_eq.mpr c8;have c8b1 : (a0_2 != a1_2) = false:=bne_eq_false_iff_eq.mpr c8;clear c8;have H':=am H;clear H;have hnb9:=NB315_316.out;have hnc9:=NB316_315.out;have hcz10_0 : w5.cell? ⟨gb315,0,none⟩ = some (.int .i64 a0_0):=(blk_cell BK315.out 0).trans rfl;have hcz10_1 : w5.cell? ⟨gb315,1,none⟩ = some (.int .i64 a0_1):=(blk_cell BK315.out 1).trans rfl;have hcz10_2 : w5.cell? ⟨gb315,2,none⟩ = some (.int .i64 a0_2):=(blk_cell BK315.out 2).trans rfl;have hcz10_3 : w5.cell? ⟨gb315,3,none⟩ = some (.slice A0_3 l0_3.length c0_3):=(blk_cell BK315.out 3).trans rfl;have hfz10_0:=blk_frozen BK315.out 0;have hfz10_1:=blk_frozen BK315.out 1;have hfz10_2:=blk_frozen BK315.out 2;have hfz10_3:=blk_frozen BK315.out 3;have hcz11_0 : w5.cell? ⟨gb316,0,none⟩ = some (.int .i64 a1_0):=(blk_cell BK316.out 0).trans rfl;have hcz11_1 : w5.cell? ⟨gb316,1,none⟩ = some (.int .i64 a1_1):=(blk_cell BK316.out 1).trans rfl;have hcz11_2 : w5.cell? ⟨gb316,2,none⟩ = some (.int .i64 a1_2):=(blk_cell BK316.out 2).trans rfl;have hcz11_3 : w5.cell? ⟨gb316,3,none⟩ = some (.slice A1_3 l1_3.length c1_3):=(blk_cell BK316.out 3).trans rfl;have hfz11_0:=blk_frozen BK316.out 0;have hfz11_1:=blk_frozen BK316.out 1;have hfz11_2:=blk_frozen BK316.out 2;have hfz11_3:=blk_frozen BK316.out 3
  go_wp2
  go_meet
  case rel=>exact ⟨_,(((l0_3.length : Int) != (l1_3.length : Int))),(by first | rfl | (simp;done) | (simp [*];done)),H',⟨by first | omega | exact Nat.le_refl _⟩,⟨by exact kq BK315.out⟩,⟨by exact kq BK316.out⟩,⟨by repeat (first | (with_reducible first | exact HB.out | apply ba | apply bn | apply bd | refine tb_ ?_ GE315.out | refine tb_ ?_ GE316.out) | exact HB.out)⟩⟩
 case rest=>
  clear HC3
  try clear c1
  try clear p2
  try clear c6
  try clear c6b0
  try clear c6b1
  try clear c7
  try clear c7b0
  try clear c7b1
  try clear c8
  try clear c8b0
  try clear c8b1
  try clear c9
  try clear c12
  try clear c13
  try clear c15
  try clear c18
  try clear hcz10_0
  try clear hcz10_1
  try clear hcz10_2
  try clear hcz10_3
  try clear hcz11_0
  try clear hcz11_1
  try clear hcz11_2
  try clear hcz11_3
  try clear hcz13_0
  try clear hcz13_1
  try clear hcz13_2
  try clear hcz13_3
  try clear hcz14_0
  try clear hcz14_1
  try clear hcz14_2
  try clear hcz14_3
  try clear hcz16_0
  try clear hcz16_1
  try clear hcz16_2
  try clear hcz16_3
  try clear hcz17_0
  try clear hcz17_1
  try clear hcz17_2
  try clear hcz17_3
  try clear hcz19_0
  try clear hcz19_1
  try clear hcz19_2
  try clear hcz19_3
  try clear hcz20_0
  try clear hcz20_1
  try clear hcz20_2
  try clear hcz20_3
  try clear hfz10_0
  try clear hfz10_1
  try clear hfz10_2
  try clear hfz10_3
  try clear hfz11_0
  try clear hfz11_1
  try clear hfz11_2
  try clear hfz11_3
  try clear hfz13_0
  try clear hfz13_1
  try clear hfz13_2
  try clear hfz13_3
  try clear hfz14_0
  try clear hfz14_1
  try clear hfz14_2
  try clear hfz14_3
  try clear hfz16_0
  try clear hfz16_1
  try clear hfz16_2
  try clear hfz16_3
  try clear hfz17_0
  try clear hfz17_1
  try clear hfz17_2
  try clear hfz17_3
  try clear hfz19_0
  try clear hfz19_1
  try clear hfz19_2
  try clear hfz19_3
  try clear hfz20_0
  try clear hfz20_1
  try clear hfz20_2
  try clear hfz20_3
  obtain ⟨kq,x33_2,rfl,HA,HJ2,BK315,BK316,HB⟩:=hcut
  cases kq with
  | zero=>exact absurd HA.out (by simp [althingref7_SameCall.j0])
  | succ kj2=>
    have H:=HA.out;clear HA;simp only [althingref7_SameCall.j0] at H
    by_cases c21 : x33_2 = true
    ·subst c21
     have H1 : (some false) = some r:=by rw [if_pos rfl] at H;exact H
     clear H;have H:=H1;clear H1;obtain rfl:=Option.some.inj H
     go_wp2
     go_ret
     exact ⟨by first | rfl | (simp [errW_none,errW_some] <;> rfl) | (simp [*,errW_none,errW_some] <;> rfl),by repeat (first | (with_reducible first | exact HB.out | apply ba | apply bn | apply bd | refine tb_ ?_ GE315.out | refine tb_ ?_ GE316.out) | exact HB.out)⟩
    replace c21:=Bool.eq_false_iff.mpr c21;subst c21
    have H1 : (althingref7_SameCall.l0 kj2 0 a0_0 a0_1 a0_2 l0_3 a1_0 a1_1 a1_2 l1_3) = some r:=by rw [if_neg (show ¬ (false = true) by decide)] at H;exact H
    clear H;have H:=H1;clear H1;have H':=am H;clear H
    go_wp2
    go_loopg [5] kj2 (fun kq v5 w'=>∃ (x5_2 : Int),v5 = .int .i64 x5_2 ∧ Aside0 (althingref7_SameCall.l0 kq x5_2 a0_0 a0_1 a0_2 l0_3 a1_0 a1_1 a1_2 l1_3 = some r) ∧ Aside0 (kq ≤ kj2) ∧ Aside0 (w'.heap[gb315]? = some (.cells #[.int .i64 a0_0,.int .i64 a0_1,.int .i64 a0_2,(.slice A0_3 l0_3.length c0_3)] 24 (0,0))) ∧ Aside0 (w'.heap[gb316]? = some (.cells #[.int .i64 a1_0,.int .i64 a1_1,.int .i64 a1_2,(.slice A1_3 l1_3.length c1_3)] 24 (0,0))) ∧ Aside0 (Below w.heap.size w w'))
    case atStart=>exact ⟨(0),(by first | rfl | (simp;done) | (simp [*];done)),H',⟨Nat.le_refl _⟩,⟨by exact kq BK315.out⟩,⟨by exact kq BK316.out⟩,⟨by repeat (first | (with_reducible first | exact HB.out | apply ba | apply bn | apply bd | refine tb_ ?_ GE315.out | refine tb_ ?_ GE316.out) | exact HB.out)⟩⟩
    case round=>
     clear H'
     try clear c1
     try clear c2
     try clear p2
     try clear c6
     try clear c6b0
     try clear c6b1
     try clear c7
     try clear c7b0
     try clear c7b1
     try clear c8
     try clear c8b0
     try clear c8b1
     try clear c9
     try clear c12
     try clear c13
     try clear c15
     try clear c18
     try clear c21
     try clear hcz10_0
     try clear hcz10_1
     try clear hcz10_2
     try clear hcz10_3
     try clear hcz11_0
     try clear hcz11_1
     try clear hcz11_2
     try clear hcz11_3
     try clear hcz13_0
     try clear hcz13_1
     try clear hcz13_2
     try clear hcz13_3
     try clear hcz14_0
     try clear hcz14_1
     try clear hcz14_2
     try clear hcz14_3
     try clear hcz16_0
     try clear hcz16_1
     try clear hcz16_2
     try clear hcz16_3
     try clear hcz17_0
     try clear hcz17_1
     try clear hcz17_2
     try clear hcz17_3
     try clear hcz19_0
     try clear hcz19_1
     try clear hcz19_2
     try clear hcz19_3
     try clear hcz20_0
     try clear hcz20_1
     try clear hcz20_2
     try clear hcz20_3
     try clear hfz10_0
     try clear hfz10_1
     try clear hfz10_2
     try clear hfz10_3
     try clear hfz11_0
     try clear hfz11_1
     try clear hfz11_2
     try clear hfz11_3
     try clear hfz13_0
     try clear hfz13_1
     try clear hfz13_2
     try clear hfz13_3
     try clear hfz14_0
     try clear hfz14_1
     try clear hfz14_2
     try clear hfz14_3
     try clear hfz16_0
     try clear hfz16_1
     try clear hfz16_2
     try clear hfz16_3
     try clear hfz17_0
     try clear hfz17_1
     try clear hfz17_2
     try clear hfz17_3
     try clear hfz19_0
     try clear hfz19_1
     try clear hfz19_2
     try clear hfz19_3
     try clear hfz20_0
     try clear hfz20_1
     try clear hfz20_2
     try clear hfz20_3
     try clear p2
     obtain ⟨x5_2,rfl,HA,HK2,BK315,BK316,HB⟩:=hrel
     cases gk with
     | zero=>exact absurd HA.out (by simp [althingref7_SameCall.l0])
     | succ k2=>
       have H:=HA.out;clear HA;simp only [althingref7_SameCall.l0] at H
       by_cases c22 : x5_2 < (l0_3.length : Int)
       rotate_left
       ·rw [if_neg c22] at H;have c22b0 : decide (x5_2 < (l0_3.length : Int)) = false:=decide_eq_false c22;clear c22;obtain rfl:=Option.some.inj H;have hnb35:=NB315_316.out;have hnc35:=NB316_315.out;have hcz36_0 : wr.cell? ⟨gb315,0,none⟩ = some (.int .i64 a0_0):=(blk_cell BK315.out 0).trans rfl;have hcz36_1 : wr.cell? ⟨gb315,1,none⟩ = some (.int .i64 a0_1):=(blk_cell BK315.out 1).trans rfl;have hcz36_2 : wr.cell? ⟨gb315,2,none⟩ = some (.int .i64 a0_2):=(blk_cell BK315.out 2).trans rfl;have hcz36_3 : wr.cell? ⟨gb315,3,none⟩ = some (.slice A0_3 l0_3.length c0_3):=(blk_cell BK315.out 3).trans rfl;have hfz36_0:=blk_frozen BK315.out 0;have hfz36_1:=blk_frozen BK315.out 1;have hfz36_2:=blk_frozen BK315.out 2;have hfz36_3:=blk_frozen BK315.out 3
        go_wp2
        go_ret
        exact ⟨by first | rfl | (simp [errW_none,errW_some] <;> rfl) | (simp [*,errW_none,errW_some] <;> rfl),by repeat (first | (with_reducible first | exact HB.out | apply ba | apply bn | apply bd | refine tb_ ?_ GE315.out | refine tb_ ?_ GE316.out) | exact HB.out)⟩
       rw [if_pos c22] at H;have c22b0 : decide (x5_2 < (l0_3.length : Int)) = true:=decide_eq_true c22;clear c22
       by_cases c23 : 0 ≤ x5_2
       rotate_left
       ·rw [if_neg c23] at H;exact absurd H (by simp)
       rw [if_pos c23] at H;have c23b0 : decide (0 ≤ x5_2) = true:=decide_eq_true c23;clear c23
       by_cases c24 : x5_2 < (l1_3.length : Int)
       rotate_left
       ·rw [if_neg c24] at H;exact absurd H (by simp)
       rw [if_pos c24] at H;have c24b0 : decide (x5_2 < (l1_3.length : Int)) = true:=decide_eq_true c24;clear c24;replace H:=Option.bind_eq_some_iff.mp H;obtain ⟨t319,A250,H⟩:=H;replace H : (if t319 = true then (althingref7_SameCall.l0 k2 (wrap64 (x5_2 + 1)) a0_0 a0_1 a0_2 l0_3 a1_0 a1_1 a1_2 l1_3) else (some false)) = some r:=H;have A25:=am A250;clear A250
       by_cases c26 : t319 = true
       rotate_left
       ·replace c26:=Bool.eq_false_iff.mpr c26;subst c26
        have H1 : (some false) = some r:=by rw [if_neg (show ¬ (false = true) by decide)] at H;exact H
        clear H;have H:=H1;clear H1;obtain rfl:=Option.some.inj H;have hnb31:=NB315_316.out;have hnc31:=NB316_315.out;have hcz32_0 : wr.cell? ⟨gb315,0,none⟩ = some (.int .i64 a0_0):=(blk_cell BK315.out 0).trans rfl;have hcz32_1 : wr.cell? ⟨gb315,1,none⟩ = some (.int .i64 a0_1):=(blk_cell BK315.out 1).trans rfl;have hcz32_2 : wr.cell? ⟨gb315,2,none⟩ = some (.int .i64 a0_2):=(blk_cell BK315.out 2).trans rfl;have hcz32_3 : wr.cell? ⟨gb315,3,none⟩ = some (.slice A0_3 l0_3.length c0_3):=(blk_cell BK315.out 3).trans rfl;have hfz32_0:=blk_frozen BK315.out 0;have hfz32_1:=blk_frozen BK315.out 1;have hfz32_2:=blk_frozen BK315.out 2;have hfz32_3:=blk_frozen BK315.out 3
        try go_wp2
        have n0_:=am (blk_drew BK315.out);have n1_:=am (blk_drew BK316.out);have n2_:=am (below_drew1 HB.out);clear BK315;clear BK316;clear HB;have BK315:=n0_;have BK316:=n1_;have HB:=n2_;clear n0_ n1_ n2_;have p317 : 0 ≤ (x5_2 : Int):=of_decide_eq_true (by first | (with_reducible assumption) | assumption);have q317 : x5_2 < (l0_3.length : Int):=of_decide_eq_true (by first | (with_reducible assumption) | assumption);obtain ⟨ad317,A317_3,c317_3,e317,hx317_0,hx317_1,hx317_2,hx317_3,hl317_3,hi317_3⟩:=at_T24 HR0_3.out x5_2 p317 q317;have hw317_3:=hx317_3;have hw317_2:=hx317_2;have hw317_1:=hx317_1;have hw317_0:=hx317_0;cases e317;replace hx317_0:=(HB.out.cell (World.block_lt_of_cell? w _ hx317_0)).trans hx317_0;replace hx317_1:=(HB.out.cell (World.block_lt_of_cell? w _ hx317_1)).trans hx317_1;replace hx317_2:=(HB.out.cell (World.block_lt_of_cell? w _ hx317_2)).trans hx317_2;replace hx317_3:=(HB.out.cell (World.block_lt_of_cell? w _ hx317_3)).trans hx317_3;have HR317_3:=am hi317_3;have HC317_3:=am hl317_3;clear hi317_3 hl317_3;replace p317:=eq_true p317;replace q317:=eq_true q317;have p318 : 0 ≤ (x5_2 : Int):=of_decide_eq_true (by first | (with_reducible assumption) | assumption);have q318 : x5_2 < (l1_3.length : Int):=of_decide_eq_true (by first | (with_reducible assumption) | assumption);obtain ⟨ad318,A318_3,c318_3,e318,hx318_0,hx318_1,hx318_2,hx318_3,hl318_3,hi318_3⟩:=at_T24 HR1_3.out x5_2 p318 q318;have hw318_3:=hx318_3;have hw318_2:=hx318_2;have hw318_1:=hx318_1;have hw318_0:=hx318_0;cases e318;replace hx318_0:=(HB.out.cell (World.block_lt_of_cell? w _ hx318_0)).trans hx318_0;replace hx318_1:=(HB.out.cell (World.block_lt_of_cell? w _ hx318_1)).trans hx318_1;replace hx318_2:=(HB.out.cell (World.block_lt_of_cell? w _ hx318_2)).trans hx318_2;replace hx318_3:=(HB.out.cell (World.block_lt_of_cell? w _ hx318_3)).trans hx318_3;have HR318_3:=am hi318_3;have HC318_3:=am hl318_3;clear hi318_3 hl318_3;replace p318:=eq_true p318;replace q318:=eq_true q318;refine start_ (n:=12) (S:=fun w'=>w'.cell? ⟨gb315,0,none⟩ = some (.int .i64 a0_0) ∧ w'.cell? ⟨gb315,1,none⟩ = some (.int .i64 a0_1) ∧ w'.cell? ⟨gb315,2,none⟩ = some (.int .i64 a0_2) ∧ w'.cell? ⟨gb315,3,none⟩ = some (.slice (some ad317) l0_3.length c0_3) ∧ w'.cell? ⟨gb316,0,none⟩ = some (.int .i64 a1_0) ∧ w'.cell? ⟨gb316,1,none⟩ = some (.int .i64 a1_1) ∧ w'.cell? ⟨gb316,2,none⟩ = some (.int .i64 a1_2) ∧ w'.cell? ⟨gb316,3,none⟩ = some (.slice (some ad318) l1_3.length c1_3) ∧ w'.cell? (ad317.add ((x5_2).toNat * 4)) = some (.int .i64 ((rd_T24 l0_3 x5_2).f0)) ∧ w'.cell? ⟨(ad317.add ((x5_2).toNat * 4)).block,(ad317.add ((x5_2).toNat * 4)).off + 1,none⟩ = some (.int .i64 ((rd_T24 l0_3 x5_2).f1)) ∧ w'.cell? ⟨(ad317.add ((x5_2).toNat * 4)).block,(ad317.add ((x5_2).toNat * 4)).off + 2,none⟩ = some (.int .i64 ((rd_T24 l0_3 x5_2).f2)) ∧ w'.cell? ⟨(ad317.add ((x5_2).toNat * 4)).block,(ad317.add ((x5_2).toNat * 4)).off + 3,none⟩ = some (.slice A317_3 ((rd_T24 l0_3 x5_2).f3).length c317_3) ∧ w'.cell? (ad318.add ((x5_2).toNat * 4)) = some (.int .i64 ((rd_T24 l1_3 x5_2).f0)) ∧ w'.cell? ⟨(ad318.add ((x5_2).toNat * 4)).block,(ad318.add ((x5_2).toNat * 4)).off + 1,none⟩ = some (.int .i64 ((rd_T24 l1_3 x5_2).f1)) ∧ w'.cell? ⟨(ad318.add ((x5_2).toNat * 4)).block,(ad318.add ((x5_2).toNat * 4)).off + 2,none⟩ = some (.int .i64 ((rd_T24 l1_3 x5_2).f2)) ∧ w'.cell? ⟨(ad318.add ((x5_2).toNat * 4)).block,(ad318.add ((x5_2).toNat * 4)).off + 3,none⟩ = some (.slice A318_3 ((rd_T24 l1_3 x5_2).f3).length c318_3)) (ds:=[]) (bl 12 0) (by kernel_rfl) rfl rfl ⟨(blk_cell BK315.out 0).trans rfl,(blk_cell BK315.out 1).trans rfl,(blk_cell BK315.out 2).trans rfl,(blk_cell BK315.out 3).trans rfl,(blk_cell BK316.out 0).trans rfl,(blk_cell BK316.out 1).trans rfl,(blk_cell BK316.out 2).trans rfl,(blk_cell BK316.out 3).trans rfl,((HB.out.cell (World.block_lt_of_cell? w _ hw317_0)).trans hw317_0),((HB.out.cell (World.block_lt_of_cell? w _ hw317_1)).trans hw317_1),((HB.out.cell (World.block_lt_of_cell? w _ hw317_2)).trans hw317_2),((HB.out.cell (World.block_lt_of_cell? w _ hw317_3)).trans hw317_3),((HB.out.cell (World.block_lt_of_cell? w _ hw318_0)).trans hw318_0),((HB.out.cell (World.block_lt_of_cell? w _ hw318_1)).trans hw318_1),((HB.out.cell (World.block_lt_of_cell? w _ hw318_2)).trans hw318_2),((HB.out.cell (World.block_lt_of_cell? w _ hw318_3)).trans hw318_3)⟩ (fun hHeld=>?_);refine with_tabW althingref7_SameCall.tab6 althingref7_SameCall.bits6 (fun HT_ HW_=>?_)
        generalize wr.drew = w33 at BK315 BK316 HB HR317_3 HR318_3 hx317_0 hx317_1 hx317_2 hx317_3 hx318_0 hx318_1 hx318_2 hx318_3 hHeld ⊢;refine p_ HT_ 0 (some 41) (bl 12 1) ?_;refine p_ HT_ 2 (some 43) (bl 12 5) ?_;refine p_ HT_ 5 (some 46) (bl 12 37) ?_;refine p_ HT_ 7 (some 48) (bl 12 165) ?_;refine take_ (i:=1) (N:=some 42) (v:=?_) (a':=?_) #[true,true,true,false,false,true,false,true,false,false,false,false] rfl rfl (take_ofW HT_.out HW_.out (by kernel_rfl)) (fun _ _ _ h=>h) (Or.inl ⟨by rfl,?_⟩) hHeld ?_ ?_;rotate_left
        ·rintro w' ⟨s0,s1,s2,s3,s4,s5,s6,s7,s8,s9,s10,s11,s12,s13,s14,s15⟩;go_simp
         with_reducible rfl
        rotate_left
        ·simp only [Act.put,List.setIfInBounds_toArray,List.set_cons_zero,List.set_cons_succ,i64_w,i32_w]
         rfl
        refine p_ HT_ 3 (some 44) (bl 12 175) ?_;refine take_ (i:=4) (N:=some 45) (v:=?_) (a':=?_) #[true,true,true,true,true,true,false,true,false,false,false,false] rfl rfl (take_ofW HT_.out HW_.out (by kernel_rfl)) (fun _ _ _ h=>h) (Or.inl ⟨by rfl,?_⟩) hHeld ?_ ?_;rotate_left
        ·rintro w' ⟨s0,s1,s2,s3,s4,s5,s6,s7,s8,s9,s10,s11,s12,s13,s14,s15⟩;go_simp
         with_reducible rfl
        rotate_left
        ·simp only [Act.put,List.setIfInBounds_toArray,List.set_cons_zero,List.set_cons_succ,i64_w,i32_w]
         rfl
        refine take_ (i:=6) (N:=some 47) (v:=?_) (a':=?_) #[true,true,true,true,true,true,true,true,false,false,false,false] rfl rfl (take_ofW HT_.out HW_.out (by kernel_rfl)) (fun _ _ _ h=>h) (Or.inl ⟨by rfl,?_⟩) hHeld ?_ ?_;rotate_left
        ·rintro w' ⟨s0,s1,s2,s3,s4,s5,s6,s7,s8,s9,s10,s11,s12,s13,s14,s15⟩;go_simp
         with_reducible rfl
        rotate_left
        ·simp only [Act.put,List.setIfInBounds_toArray,List.set_cons_zero,List.set_cons_succ,i64_w,i32_w]
         rfl
        refine p_ HT_ 8 (some 49) (bl 12 511) ?_;refine take_ (i:=9) (N:=some 50) (v:=?_) (a':=?_) #[true,true,true,true,true,true,true,true,true,true,false,false] rfl rfl (take_ofW HT_.out HW_.out (by kernel_rfl)) (fun _ _ _ h=>h) (Or.inl ⟨by rfl,?_⟩) hHeld ?_ ?_;rotate_left
        ·rintro w' ⟨s0,s1,s2,s3,s4,s5,s6,s7,s8,s9,s10,s11,s12,s13,s14,s15⟩;go_simp
         with_reducible rfl
        rotate_left
        ·simp only [Act.put,List.setIfInBounds_toArray,List.set_cons_zero,List.set_cons_succ,i64_w,i32_w]
         rfl
        refine o_ HT_ 10 (some 51) (bl 12 2047) fun K hK=>?_;refine goes_ Tryd.func13 (by kernel_rfl) rfl #[.agg #[.int .i64 ((rd_T24 l0_3 x5_2).f0),.int .i64 ((rd_T24 l0_3 x5_2).f1),.int .i64 ((rd_T24 l0_3 x5_2).f2),.slice A317_3 ((rd_T24 l0_3 x5_2).f3).length c317_3],.agg #[.int .i64 ((rd_T24 l1_3 x5_2).f0),.int .i64 ((rd_T24 l1_3 x5_2).f1),.int .i64 ((rd_T24 l1_3 x5_2).f2),.slice A318_3 ((rd_T24 l1_3 x5_2).f3).length c318_3]] (by rfl) rfl rfl (by (try simp only [List.map_toArray,List.map_cons,List.map_nil]);first | done | rfl | (simp only [List.length_drop,List.length_take];rfl)) ?_
        with_reducible refine (ih k2 (by have:=HJ2.out;have:=HK2.out;omega) ((rd_T24 l0_3 x5_2).f0) ((rd_T24 l0_3 x5_2).f1) ((rd_T24 l0_3 x5_2).f2) _ _ ((rd_T24 l0_3 x5_2).f3) ((rd_T24 l1_3 x5_2).f0) ((rd_T24 l1_3 x5_2).f1) ((rd_T24 l1_3 x5_2).f2) _ _ ((rd_T24 l1_3 x5_2).f3) false _ ?side1 ?side2 ?side3 ?side4 A25.out).mono ?_
        (case side1=>repeat (first | exact (Kd.C_below HR317_3.out HB.out) | (with_reducible refine Kd.C_alloc ?_ _) | (with_reducible refine Kd.C_drewN ?_ _) | (with_reducible refine Kd.C_drew ?_)))
        (case side2=>exact HC317_3.out)
        (case side3=>repeat (first | exact (Kd.C_below HR318_3.out HB.out) | (with_reducible refine Kd.C_alloc ?_ _) | (with_reducible refine Kd.C_drewN ?_ _) | (with_reducible refine Kd.C_drew ?_)))
        (case side4=>exact HC318_3.out)
        rintro e w34 ⟨rfl,hb⟩;refine ⟨_,rfl,?_⟩;have n0_:=am (blk_below (g:=gb315) (o:= .cells #[.int .i64 a0_0,.int .i64 a0_1,.int .i64 a0_2,.slice (some ad317) l0_3.length c0_3] 24 (0,0)) (by exact kq BK315.out) hb);have n1_:=am (blk_below (g:=gb316) (o:= .cells #[.int .i64 a1_0,.int .i64 a1_1,.int .i64 a1_2,.slice (some ad318) l1_3.length c1_3] 24 (0,0)) (by exact kq BK316.out) hb);have n2_:=am (below_step (by repeat (first | (with_reducible first | exact HB.out | apply ba | apply bn | apply bd | refine tb_ ?_ GE315.out | refine tb_ ?_ GE316.out) | exact HB.out)) hb);clear BK315;clear BK316;clear HB;have BK315:=n0_;have BK316:=n1_;have HB:=n2_;clear n0_ n1_ n2_
        (try clear hb)
        (try clear hb2)
        (try clear hk)
        (try clear hi)
        refine hK.out _ _ ⟨(blk_cell BK315.out 0).trans rfl,(blk_cell BK315.out 1).trans rfl,(blk_cell BK315.out 2).trans rfl,(blk_cell BK315.out 3).trans rfl,(blk_cell BK316.out 0).trans rfl,(blk_cell BK316.out 1).trans rfl,(blk_cell BK316.out 2).trans rfl,(blk_cell BK316.out 3).trans rfl,((HB.out.cell (World.block_lt_of_cell? w _ hw317_0)).trans hw317_0),((HB.out.cell (World.block_lt_of_cell? w _ hw317_1)).trans hw317_1),((HB.out.cell (World.block_lt_of_cell? w _ hw317_2)).trans hw317_2),((HB.out.cell (World.block_lt_of_cell? w _ hw317_3)).trans hw317_3),((HB.out.cell (World.block_lt_of_cell? w _ hw318_0)).trans hw318_0),((HB.out.cell (World.block_lt_of_cell? w _ hw318_1)).trans hw318_1),((HB.out.cell (World.block_lt_of_cell? w _ hw318_2)).trans hw318_2),((HB.out.cell (World.block_lt_of_cell? w _ hw318_3)).trans hw318_3)⟩ (fun hHeld=>?_);clear hK K;refine nm (some 51) ?_;refine p_ HT_ 11 (some 52) (bl 12 4095) ?_;refine done_ (done_of HT_.out (by kernel_rfl)) ?_
        try go_wp2
        go_ret
        exact ⟨by first | rfl | (simp [errW_none,errW_some] <;> rfl) | (simp [*,errW_none,errW_some] <;> rfl),by repeat (first | (with_reducible first | exact HB.out | apply ba | apply bn | apply bd | refine tb_ ?_ GE315.out | refine tb_ ?_ GE316.out) | exact HB.out)⟩
       subst c26
       have H1 : (althingref7_SameCall.l0 k2 (wrap64 (x5_2 + 1)) a0_0 a0_1 a0_2 l0_3 a1_0 a1_1 a1_2 l1_3) = some r:=by rw [if_pos rfl] at H;exact H
       clear H;have H:=H1;clear H1;have H':=am H;clear H;have hnb27:=NB315_316.out;have hnc27:=NB316_315.out;have hcz28_0 : wr.cell? ⟨gb315,0,none⟩ = some (.int .i64 a0_0):=(blk_cell BK315.out 0).trans rfl;have hcz28_1 : wr.cell? ⟨gb315,1,none⟩ = some (.int .i64 a0_1):=(blk_cell BK315.out 1).trans rfl;have hcz28_2 : wr.cell? ⟨gb315,2,none⟩ = some (.int .i64 a0_2):=(blk_cell BK315.out 2).trans rfl;have hcz28_3 : wr.cell? ⟨gb315,3,none⟩ = some (.slice A0_3 l0_3.length c0_3):=(blk_cell BK315.out 3).trans rfl;have hfz28_0:=blk_frozen BK315.out 0;have hfz28_1:=blk_frozen BK315.out 1;have hfz28_2:=blk_frozen BK315.out 2;have hfz28_3:=blk_frozen BK315.out 3
       try go_wp2
       have n0_:=am (blk_drew BK315.out);have n1_:=am (blk_drew BK316.out);have n2_:=am (below_drew1 HB.out);clear BK315;clear BK316;clear HB;have BK315:=n0_;have BK316:=n1_;have HB:=n2_;clear n0_ n1_ n2_;have p317 : 0 ≤ (x5_2 : Int):=of_decide_eq_true (by first | (with_reducible assumption) | assumption);have q317 : x5_2 < (l0_3.length : Int):=of_decide_eq_true (by first | (with_reducible assumption) | assumption);obtain ⟨ad317,A317_3,c317_3,e317,hx317_0,hx317_1,hx317_2,hx317_3,hl317_3,hi317_3⟩:=at_T24 HR0_3.out x5_2 p317 q317;have hw317_3:=hx317_3;have hw317_2:=hx317_2;have hw317_1:=hx317_1;have hw317_0:=hx317_0;cases e317;replace hx317_0:=(HB.out.cell (World.block_lt_of_cell? w _ hx317_0)).trans hx317_0;replace hx317_1:=(HB.out.cell (World.block_lt_of_cell? w _ hx317_1)).trans hx317_1;replace hx317_2:=(HB.out.cell (World.block_lt_of_cell? w _ hx317_2)).trans hx317_2;replace hx317_3:=(HB.out.cell (World.block_lt_of_cell? w _ hx317_3)).trans hx317_3;have HR317_3:=am hi317_3;have HC317_3:=am hl317_3;clear hi317_3 hl317_3;replace p317:=eq_true p317;replace q317:=eq_true q317;have p318 : 0 ≤ (x5_2 : Int):=of_decide_eq_true (by first | (with_reducible assumption) | assumption);have q318 : x5_2 < (l1_3.length : Int):=of_decide_eq_true (by first | (with_reducible assumption) | assumption);obtain ⟨ad318,A318_3,c318_3,e318,hx318_0,hx318_1,hx318_2,hx318_3,hl318_3,hi318_3⟩:=at_T24 HR1_3.out x5_2 p318 q318;have hw318_3:=hx318_3;have hw318_2:=hx318_2;have hw318_1:=hx318_1;have hw318_0:=hx318_0;cases e318;replace hx318_0:=(HB.out.cell (World.block_lt_of_cell? w _ hx318_0)).trans hx318_0;replace hx318_1:=(HB.out.cell (World.block_lt_of_cell? w _ hx318_1)).trans hx318_1;replace hx318_2:=(HB.out.cell (World.block_lt_of_cell? w _ hx318_2)).trans hx318_2;replace hx318_3:=(HB.out.cell (World.block_lt_of_cell? w _ hx318_3)).trans hx318_3;have HR318_3:=am hi318_3;have HC318_3:=am hl318_3;clear hi318_3 hl318_3;replace p318:=eq_true p318;replace q318:=eq_true q318;refine start_ (n:=12) (S:=fun w'=>w'.cell? ⟨gb315,0,none⟩ = some (.int .i64 a0_0) ∧ w'.cell? ⟨gb315,1,none⟩ = some (.int .i64 a0_1) ∧ w'.cell? ⟨gb315,2,none⟩ = some (.int .i64 a0_2) ∧ w'.cell? ⟨gb315,3,none⟩ = some (.slice (some ad317) l0_3.length c0_3) ∧ w'.cell? ⟨gb316,0,none⟩ = some (.int .i64 a1_0) ∧ w'.cell? ⟨gb316,1,none⟩ = some (.int .i64 a1_1) ∧ w'.cell? ⟨gb316,2,none⟩ = some (.int .i64 a1_2) ∧ w'.cell? ⟨gb316,3,none⟩ = some (.slice (some ad318) l1_3.length c1_3) ∧ w'.cell? (ad317.add ((x5_2).toNat * 4)) = some (.int .i64 ((rd_T24 l0_3 x5_2).f0)) ∧ w'.cell? ⟨(ad317.add ((x5_2).toNat * 4)).block,(ad317.add ((x5_2).toNat * 4)).off + 1,none⟩ = some (.int .i64 ((rd_T24 l0_3 x5_2).f1)) ∧ w'.cell? ⟨(ad317.add ((x5_2).toNat * 4)).block,(ad317.add ((x5_2).toNat * 4)).off + 2,none⟩ = some (.int .i64 ((rd_T24 l0_3 x5_2).f2)) ∧ w'.cell? ⟨(ad317.add ((x5_2).toNat * 4)).block,(ad317.add ((x5_2).toNat * 4)).off + 3,none⟩ = some (.slice A317_3 ((rd_T24 l0_3 x5_2).f3).length c317_3) ∧ w'.cell? (ad318.add ((x5_2).toNat * 4)) = some (.int .i64 ((rd_T24 l1_3 x5_2).f0)) ∧ w'.cell? ⟨(ad318.add ((x5_2).toNat * 4)).block,(ad318.add ((x5_2).toNat * 4)).off + 1,none⟩ = some (.int .i64 ((rd_T24 l1_3 x5_2).f1)) ∧ w'.cell? ⟨(ad318.add ((x5_2).toNat * 4)).block,(ad318.add ((x5_2).toNat * 4)).off + 2,none⟩ = some (.int .i64 ((rd_T24 l1_3 x5_2).f2)) ∧ w'.cell? ⟨(ad318.add ((x5_2).toNat * 4)).block,(ad318.add ((x5_2).toNat * 4)).off + 3,none⟩ = some (.slice A318_3 ((rd_T24 l1_3 x5_2).f3).length c318_3)) (ds:=[]) (bl 12 0) (by kernel_rfl) rfl rfl ⟨(blk_cell BK315.out 0).trans rfl,(blk_cell BK315.out 1).trans rfl,(blk_cell BK315.out 2).trans rfl,(blk_cell BK315.out 3).trans rfl,(blk_cell BK316.out 0).trans rfl,(blk_cell BK316.out 1).trans rfl,(blk_cell BK316.out 2).trans rfl,(blk_cell BK316.out 3).trans rfl,((HB.out.cell (World.block_lt_of_cell? w _ hw317_0)).trans hw317_0),((HB.out.cell (World.block_lt_of_cell? w _ hw317_1)).trans hw317_1),((HB.out.cell (World.block_lt_of_cell? w _ hw317_2)).trans hw317_2),((HB.out.cell (World.block_lt_of_cell? w _ hw317_3)).trans hw317_3),((HB.out.cell (World.block_lt_of_cell? w _ hw318_0)).trans hw318_0),((HB.out.cell (World.block_lt_of_cell? w _ hw318_1)).trans hw318_1),((HB.out.cell (World.block_lt_of_cell? w _ hw318_2)).trans hw318_2),((HB.out.cell (World.block_lt_of_cell? w _ hw318_3)).trans hw318_3)⟩ (fun hHeld=>?_);refine with_tabW althingref7_SameCall.tab6 althingref7_SameCall.bits6 (fun HT_ HW_=>?_)
       generalize wr.drew = w29 at BK315 BK316 HB HR317_3 HR318_3 hx317_0 hx317_1 hx317_2 hx317_3 hx318_0 hx318_1 hx318_2 hx318_3 hHeld ⊢;refine p_ HT_ 0 (some 41) (bl 12 1) ?_;refine p_ HT_ 2 (some 43) (bl 12 5) ?_;refine p_ HT_ 5 (some 46) (bl 12 37) ?_;refine p_ HT_ 7 (some 48) (bl 12 165) ?_;refine take_ (i:=1) (N:=some 42) (v:=?_) (a':=?_) #[true,true,true,false,false,true,false,true,false,false,false,false] rfl rfl (take_ofW HT_.out HW_.out (by kernel_rfl)) (fun _ _ _ h=>h) (Or.inl ⟨by rfl,?_⟩) hHeld ?_ ?_;rotate_left
       ·rintro w' ⟨s0,s1,s2,s3,s4,s5,s6,s7,s8,s9,s10,s11,s12,s13,s14,s15⟩;go_simp
        with_reducible rfl
       rotate_left
       ·simp only [Act.put,List.setIfInBounds_toArray,List.set_cons_zero,List.set_cons_succ,i64_w,i32_w]
        rfl
       refine p_ HT_ 3 (some 44) (bl 12 175) ?_;refine take_ (i:=4) (N:=some 45) (v:=?_) (a':=?_) #[true,true,true,true,true,true,false,true,false,false,false,false] rfl rfl (take_ofW HT_.out HW_.out (by kernel_rfl)) (fun _ _ _ h=>h) (Or.inl ⟨by rfl,?_⟩) hHeld ?_ ?_;rotate_left
       ·rintro w' ⟨s0,s1,s2,s3,s4,s5,s6,s7,s8,s9,s10,s11,s12,s13,s14,s15⟩;go_simp
        with_reducible rfl
       rotate_left
       ·simp only [Act.put,List.setIfInBounds_toArray,List.set_cons_zero,List.set_cons_succ,i64_w,i32_w]
        rfl
       refine take_ (i:=6) (N:=some 47) (v:=?_) (a':=?_) #[true,true,true,true,true,true,true,true,false,false,false,false] rfl rfl (take_ofW HT_.out HW_.out (by kernel_rfl)) (fun _ _ _ h=>h) (Or.inl ⟨by rfl,?_⟩) hHeld ?_ ?_;rotate_left
       ·rintro w' ⟨s0,s1,s2,s3,s4,s5,s6,s7,s8,s9,s10,s11,s12,s13,s14,s15⟩;go_simp
        with_reducible rfl
       rotate_left
       ·simp only [Act.put,List.setIfInBounds_toArray,List.set_cons_zero,List.set_cons_succ,i64_w,i32_w]
        rfl
       refine p_ HT_ 8 (some 49) (bl 12 511) ?_;refine take_ (i:=9) (N:=some 50) (v:=?_) (a':=?_) #[true,true,true,true,true,true,true,true,true,true,false,false] rfl rfl (take_ofW HT_.out HW_.out (by kernel_rfl)) (fun _ _ _ h=>h) (Or.inl ⟨by rfl,?_⟩) hHeld ?_ ?_;rotate_left
       ·rintro w' ⟨s0,s1,s2,s3,s4,s5,s6,s7,s8,s9,s10,s11,s12,s13,s14,s15⟩;go_simp
        with_reducible rfl
       rotate_left
       ·simp only [Act.put,List.setIfInBounds_toArray,List.set_cons_zero,List.set_cons_succ,i64_w,i32_w]
        rfl
       refine o_ HT_ 10 (some 51) (bl 12 2047) fun K hK=>?_;refine goes_ Tryd.func13 (by kernel_rfl) rfl #[.agg #[.int .i64 ((rd_T24 l0_3 x5_2).f0),.int .i64 ((rd_T24 l0_3 x5_2).f1),.int .i64 ((rd_T24 l0_3 x5_2).f2),.slice A317_3 ((rd_T24 l0_3 x5_2).f3).length c317_3],.agg #[.int .i64 ((rd_T24 l1_3 x5_2).f0),.int .i64 ((rd_T24 l1_3 x5_2).f1),.int .i64 ((rd_T24 l1_3 x5_2).f2),.slice A318_3 ((rd_T24 l1_3 x5_2).f3).length c318_3]] (by rfl) rfl rfl (by (try simp only [List.map_toArray,List.map_cons,List.map_nil]);first | done | rfl | (simp only [List.length_drop,List.length_take];rfl)) ?_
       with_reducible refine (ih k2 (by have:=HJ2.out;have:=HK2.out;omega) ((rd_T24 l0_3 x5_2).f0) ((rd_T24 l0_3 x5_2).f1) ((rd_T24 l0_3 x5_2).f2) _ _ ((rd_T24 l0_3 x5_2).f3) ((rd_T24 l1_3 x5_2).f0) ((rd_T24 l1_3 x5_2).f1) ((rd_T24 l1_3 x5_2).f2) _ _ ((rd_T24 l1_3 x5_2).f3) true _ ?side1 ?side2 ?side3 ?side4 A25.out).mono ?_
       (case side1=>repeat (first | exact (Kd.C_below HR317_3.out HB.out) | (with_reducible refine Kd.C_alloc ?_ _) | (with_reducible refine Kd.C_drewN ?_ _) | (with_reducible refine Kd.C_drew ?_)))
       (case side2=>exact HC317_3.out)
       (case side3=>repeat (first | exact (Kd.C_below HR318_3.out HB.out) | (with_reducible refine Kd.C_alloc ?_ _) | (with_reducible refine Kd.C_drewN ?_ _) | (with_reducible refine Kd.C_drew ?_)))
       (case side4=>exact HC318_3.out)
       rintro e w30 ⟨rfl,hb⟩;refine ⟨_,rfl,?_⟩;have n0_:=am (blk_below (g:=gb315) (o:= .cells #[.int .i64 a0_0,.int .i64 a0_1,.int .i64 a0_2,.slice (some ad317) l0_3.length c0_3] 24 (0,0)) (by exact kq BK315.out) hb);have n1_:=am (blk_below (g:=gb316) (o:= .cells #[.int .i64 a1_0,.int .i64 a1_1,.int .i64 a1_2,.slice (some ad318) l1_3.length c1_3] 24 (0,0)) (by exact kq BK316.out) hb);have n2_:=am (below_step (by repeat (first | (with_reducible first | exact HB.out | apply ba | apply bn | apply bd | refine tb_ ?_ GE315.out | refine tb_ ?_ GE316.out) | exact HB.out)) hb);clear BK315;clear BK316;clear HB;have BK315:=n0_;have BK316:=n1_;have HB:=n2_;clear n0_ n1_ n2_
       (try clear hb)
       (try clear hb2)
       (try clear hk)
       (try clear hi)
       refine hK.out _ _ ⟨(blk_cell BK315.out 0).trans rfl,(blk_cell BK315.out 1).trans rfl,(blk_cell BK315.out 2).trans rfl,(blk_cell BK315.out 3).trans rfl,(blk_cell BK316.out 0).trans rfl,(blk_cell BK316.out 1).trans rfl,(blk_cell BK316.out 2).trans rfl,(blk_cell BK316.out 3).trans rfl,((HB.out.cell (World.block_lt_of_cell? w _ hw317_0)).trans hw317_0),((HB.out.cell (World.block_lt_of_cell? w _ hw317_1)).trans hw317_1),((HB.out.cell (World.block_lt_of_cell? w _ hw317_2)).trans hw317_2),((HB.out.cell (World.block_lt_of_cell? w _ hw317_3)).trans hw317_3),((HB.out.cell (World.block_lt_of_cell? w _ hw318_0)).trans hw318_0),((HB.out.cell (World.block_lt_of_cell? w _ hw318_1)).trans hw318_1),((HB.out.cell (World.block_lt_of_cell? w _ hw318_2)).trans hw318_2),((HB.out.cell (World.block_lt_of_cell? w _ hw318_3)).trans hw318_3)⟩ (fun hHeld=>?_);clear hK K;refine nm (some 51) ?_;refine p_ HT_ 11 (some 52) (bl 12 4095) ?_;refine done_ (done_of HT_.out (by kernel_rfl)) ?_
       try go_wp2
       go_roundg k2
       case measure=>have:=HJ2.out;have:=HK2.out;omega
       case rel=>exact ⟨(wrap64 (x5_2 + 1)),(by first | rfl | (simp;done) | (simp [*];done)),H',⟨by have:=HJ2.out;have:=HK2.out;omega⟩,⟨by exact kq BK315.out⟩,⟨by exact kq BK316.out⟩,⟨by repeat (first | (with_reducible first | exact HB.out | apply ba | apply bn | apply bd | refine tb_ ?_ GE315.out | refine tb_ ?_ GE316.out) | exact HB.out)⟩⟩
-- NOT PRINTED: function 17 (althingref7_Sum)
-- NOT PRINTED: function 4 (althinglaw7_CodeCalls)
end Go.Proofs.YtilckocpgififaaDoor.G
/- Whether two calls are one, as the reference tells it, plainly: the same as the code's. -/
namespace Go.Proofs.YtilckocpgififaaDoor.G
open Go.RowKit Go.Shelf Go.Proofs.YtilckocpgififaaDoorW.PrintWords Go.Proofs.YtilckocpgififaaDoorW.PrintMore Go.Proofs.YtilckocpgififaaDoor.PNum
set_option linter.unusedVariables false
set_option linter.unusedSimpArgs false
def RSame (f K : Nat) (x y : S24) : Prop:=∃ r,sameF f x y = some r ∧ ∀ k,K ≤ k → althingref7_SameCall.f k x.f0 x.f1 x.f2 x.f3 y.f0 y.f1 y.f2 y.f3 = some r
theorem RSame.mono {f K K' : Nat} {x y : S24} (h : RSame f K x y) (hk : K ≤ K') : RSame f K' x y:=by
 obtain ⟨r,h1,h2⟩:=h;exact ⟨r,h1,fun k hk'=>h2 k (by omega)⟩
theorem rsame_all (f : Nat) : ∀ (l m : List S24),l.length = m.length → (∀ x ∈ l,∀ y,∃ K,RSame f K x y) → ∃ K,∀ j (h1 : j < l.length) (h2 : j < m.length),RSame f K l[j] m[j]
 | [],_,_,_=>⟨0,fun j h1 _=>by cases h1⟩
 | x :: l,[],h,_=>by cases h
 | x :: l,y :: m,h,hx=>by
   obtain ⟨K1,h1⟩:=hx x (by simp) y;obtain ⟨K2,h2⟩:=rsame_all f l m (by simpa using h) (fun z hz=>hx z (by simp [hz]));refine ⟨max K1 K2,fun j j1 j2=>?_⟩
   cases j with
   | zero=>exact h1.mono (by omega)
   | succ j=>exact (h2 j (by simpa using j1) (by simpa using j2)).mono (by omega)
theorem rsame_loop (f K : Nat) (l m : List S24) (hl : l.length = m.length) (hmax : l.length ≤ 9223372036854775807) (hK : ∀ j (h1 : j < l.length) (h2 : j < m.length),RSame f K l[j] m[j]) (a b c a' b' c' : Int) (d : Nat) :
 ∀ (i : Nat),i + d = l.length → ∃ r,allM (sameF f) (l.drop i) (m.drop i) = some r ∧ ∀ k,K + d < k → althingref7_SameCall.l0 k i a b c l a' b' c' m = some r:=by
 induction d with
 | zero=>
   intro i hi;refine ⟨true,?_,fun k hk=>?_⟩
   ·rw [List.drop_eq_nil_of_le (by omega)];rfl
   ·obtain ⟨k,rfl⟩ : ∃ q,k = q + 1:=⟨k - 1,by omega⟩;rw [althingref7_SameCall.l0,if_neg (by omega)]
 | succ d ihd=>
   intro i hi
   have h1 : i < l.length:=by omega
   have h2 : i < m.length:=by omega
   obtain ⟨r0,s1,s2⟩:=hK i h1 h2;obtain ⟨r1,t1,t2⟩:=ihd (i + 1) (by omega)
   have e1 : wrap64 ((i : Int) + 1) = ((i + 1 : Nat) : Int):=by rw [wrap_in (by omega) (by omega)];omega
   have c1 : (i : Int) < (l.length : Int):=by omega
   have c2 : (0 : Int) ≤ (i : Int):=by omega
   have c3 : (i : Int) < (m.length : Int):=by omega
   have step : ∀ k,K + (d + 1) < k → althingref7_SameCall.l0 k i a b c l a' b' c' m = if r0 = true then some r1 else some false:=by
    intro k hk;obtain ⟨k,rfl⟩ : ∃ q,k = q + 1:=⟨k - 1,by omega⟩;rw [althingref7_SameCall.l0,if_pos c1,if_pos c2,if_pos c3,rd_natT l i h1,rd_natT m i h2,s2 k (by omega),Option.bind_some,e1,t2 k (by omega)]
   have hall : allM (sameF f) (l.drop i) (m.drop i) = if r0 = true then some r1 else some false:=by
    rw [List.drop_eq_getElem_cons h1,List.drop_eq_getElem_cons h2,allM,s1,Option.bind_some,t1]
   cases r0 with
   | true=>exact ⟨r1,by rw [hall,if_pos rfl],fun k hk=>by rw [step k hk,if_pos rfl]⟩
   | false=>exact ⟨false,by rw [hall,if_neg (by decide)],fun k hk=>by rw [step k hk,if_neg (by decide)]⟩
theorem rsame : ∀ (f : Nat) (a b : S24),Fits f a → ∃ K,RSame f K a b
 | 0,_,_,h=>h.elim
 | f + 1,a,b,⟨hl,h⟩=>by
   by_cases he : a.f0 = b.f0 ∧ a.f1 = b.f1 ∧ a.f2 = b.f2 ∧ a.f3.length = b.f3.length
   ·obtain ⟨e0,e1,e2,e3⟩:=he;obtain ⟨K,hK⟩:=rsame_all f a.f3 b.f3 e3 (fun x hx y=>rsame f x y (h x hx));obtain ⟨r,r1,r2⟩:=rsame_loop f K a.f3 b.f3 e3 hl hK a.f0 a.f1 a.f2 b.f0 b.f1 b.f2 a.f3.length 0 (by omega);refine ⟨K + a.f3.length + 5,r,?_,fun k hk=>?_⟩
    ·rw [sameF,if_pos ⟨e0,e1,e2,e3⟩];rwa [List.drop_zero,List.drop_zero] at r1
    ·obtain ⟨k,rfl⟩ : ∃ q,k = q + 2:=⟨k - 2,by omega⟩;rw [althingref7_SameCall.f,if_pos e0,if_pos e1,if_pos e2,althingref7_SameCall.j0]
     have hb : ((a.f3.length : Int) != (b.f3.length : Int)) = false:=by rw [e3];simp
     rw [hb,if_neg (by decide)];exact r2 k (by omega)
   refine ⟨5,false,by rw [sameF,if_neg he],fun k hk=>?_⟩;obtain ⟨k,rfl⟩ : ∃ q,k = q + 2:=⟨k - 2,by omega⟩
   have j : ∀ (p q r : Int) (l : List S24) (p' q' r' : Int) (l' : List S24),althingref7_SameCall.j0 (k + 1) true p q r l p' q' r' l' = some false:=fun p q r l p' q' r' l'=>by rw [althingref7_SameCall.j0,if_pos rfl]
   rw [althingref7_SameCall.f]
   by_cases e0 : a.f0 = b.f0
   rotate_left
   ·rw [if_neg e0,j]
   rw [if_pos e0]
   by_cases e1 : a.f1 = b.f1
   rotate_left
   ·rw [if_neg e1,j]
   rw [if_pos e1]
   by_cases e2 : a.f2 = b.f2
   rotate_left
   ·rw [if_neg e2,j]
   rw [if_pos e2]
   have e3 : ((a.f3.length : Int) != (b.f3.length : Int)) = true:=by
    rw [bne_iff_ne];intro e;exact he ⟨e0,e1,e2,by omega⟩
   rw [e3,j]
theorem refSameCall_calls (f : Nat) (a b : S24) (A B : Option Addr) (c d : Nat) (r : Bool) (w : World) (hC : Kd.C k24 w A a.f3.length a.f3) (hc : a.f3.length ≤ c) (hD : Kd.C k24 w B b.f3.length b.f3) (hd : b.f3.length ≤ d) (hf : Fits f a) (h : sameF f a b = some r) :
 Calls Tryd.prog 13 #[.agg #[.int .i64 a.f0,.int .i64 a.f1,.int .i64 a.f2,.slice A a.f3.length c],.agg #[.int .i64 b.f0,.int .i64 b.f1,.int .i64 b.f2,.slice B b.f3.length d]] w fun e w'=>e = .returned (.bool r) ∧ Below w.heap.size w w':=by
 obtain ⟨K,r',h1,h2⟩:=rsame f a b hf;rw [h] at h1;obtain rfl:=Option.some.inj h1;exact althingref7_SameCall.calls K _ _ _ A c _ _ _ _ B d _ r w hC hc hD hd (h2 K (Nat.le_refl _))
end Go.Proofs.YtilckocpgififaaDoor.G
