/- althingref7.DecodeExt: bytes as an extrinsic, or refused (laid by mkrefdec.py). -/
import Derived.Test.YtilckocpgififaaExHRefEnc
import Derived.Test.YtilckocpgififaaExHStep
import Derived.Test.YtilckocpgififaaExHTaken0
import Derived.Test.YtilckocpgififaaExHSameCall
import Derived.Test.YtilckocpgififaaExHIsExt
namespace Go.Proofs.Ytilckocpgififaa.G
open Go.Extern.Stop (cell)
open Go.RowKit Go.Shelf Go.Proofs.YtilckocpgififaaW.PrintWords Go.Proofs.YtilckocpgififaaW.PrintLast Go.Proofs.YtilckocpgififaaW.PrintMore Go.Proofs.Ytilckocpgififaa.PNum
set_option linter.unusedVariables false
set_option linter.unusedSimpArgs false
structure DecSt (B : Nat) (w W : World) (R g2 g5 : Nat) (Z : List Value) (l : List Int) (e : Bool) (L : List Value) : Prop where
 rd : ∃ A c,RdAt B W R A c l e
 ext : Lies W g5 L
 res : Lies W g2 Z
 low : Below B w W
 lt2 : B ≤ g2
 ltR : g2 < R
 lt5 : R < g5
 zl : 0 < Z.length
 ll : 0 < L.length
 base : B = w.heap.size
section
variable {B : Nat} {w W W' : World} {R g2 g5 : Nat} {Z : List Value} {l : List Int} {e : Bool} {L : List Value}
theorem DecSt.kept (h : DecSt B w W R g2 g5 Z l e L) {l' : List Int} {e' : Bool} (hr : ∃ A c,RdAt B W' R A c l' e') (hk : Kept (fun k=>k = R) W W') : DecSt B w W' R g2 g5 Z l' e' L:=
 { h with rd:=hr,ext:=h.ext.kept hk h.ll (by have:=h.lt5;show ¬ g5 = R;omega),res:=h.res.kept hk h.zl (by have:=h.ltR;show ¬ g2 = R;omega),low:=hk.to_below h.low (by have:=h.low.size;have:=h.base;omega) (fun k hk'=>by have h1 : k = R:=hk';have:=h.ltR;have:=h.lt2;omega) }
theorem DecSt.below (h : DecSt B w W R g2 g5 Z l e L) (hb : Below W.heap.size W W') : DecSt B w W' R g2 g5 Z l e L:=by
 obtain ⟨A,c,hr⟩:=h.rd;exact { h with rd:=⟨A,c,hr.below hb⟩,ext:=h.ext.below hb (h.ext.lt h.ll),res:=h.res.below hb (h.res.lt h.zl),low:=h.low.trans (hb.mono (by have:=h.low.size;have:=h.base;omega)) }
theorem DecSt.set (h : DecSt B w W R g2 g5 Z l e L) (o : Nat) (ho : o < L.length) (v : Value) : DecSt B w (W.setCell ⟨g5,o,none⟩ v) R g2 g5 Z l e (L.set o v):=by
 obtain ⟨A,c,hr⟩:=h.rd;have h2:=h.lt2;have h3:=h.ltR;have h5:=h.lt5;exact { h with rd:=⟨A,c,hr.set_else (by omega) (by omega) o v⟩,ext:=h.ext.set o ho v,res:=h.res.set_far (by omega) o v,low:=h.low.setCell (p:=⟨g5,o,none⟩) (by show B ≤ g5;omega) v,ll:=by rw [List.length_set];exact h.ll }
theorem DecSt.splice (h : DecSt B w W R g2 g5 Z l e L) (o : Nat) (vs : List Value) (ho : o + vs.length ≤ L.length) : DecSt B w (W.setCells g5 o vs) R g2 g5 Z l e (L.take o ++ vs ++ L.drop (o + vs.length)):=by
 obtain ⟨A,c,hr⟩:=h.rd;have h2:=h.lt2;have h3:=h.ltR;have h5:=h.lt5;have hk:=kept_setCells g5 o vs W;exact { h with rd:=⟨A,c,hr.kept hk (fun k e=>by have e' : k = g5:=e;omega) (by show ¬ R = g5;omega)⟩,ext:=h.ext.splice o vs ho,res:=h.res.kept hk h.zl (by show ¬ g2 = g5;omega),low:=below_setCells' g5 (by omega) vs o W h.low,ll:=by have:=h.ll;simp;omega }
theorem DecSt.num (h : DecSt B w W R g2 g5 Z l e L) : Calls Try.prog 47 #[.pointer (some ⟨R,0,none⟩)] W fun x W'=>x = .returned (.int .i64 (rnum l e).1) ∧ DecSt B w W' R g2 g5 Z (rnum l e).2.1 (rnum l e).2.2 L:=by
 obtain ⟨A,c,hr⟩:=h.rd;exact (rnum_calls B R A c l e W hr).mono fun x W' ⟨h1,h2,h3⟩=>⟨h1,h.kept h2 h3⟩
theorem DecSt.row (h : DecSt B w W R g2 g5 Z l e L) : Calls Try.prog 49 #[.pointer (some ⟨R,0,none⟩)] W fun x W'=>RowRet B W' x (rrow l e).1 ∧ DecSt B w W' R g2 g5 Z (rrow l e).2.1 (rrow l e).2.2 L:=by
 obtain ⟨A,c,hr⟩:=h.rd;exact (rrow_calls B R A c l e W hr).mono fun x W' ⟨h1,h2,h3⟩=>⟨h1,h.kept h2 h3⟩
theorem DecSt.raw (h : DecSt B w W R g2 g5 Z l e L) : Calls Try.prog 48 #[.pointer (some ⟨R,0,none⟩),.int .i64 32] W fun x W'=>RowRet B W' x (rraw 32 l e).1 ∧ DecSt B w W' R g2 g5 Z (rraw 32 l e).2.1 (rraw 32 l e).2.2 L:=by
 obtain ⟨A,c,hr⟩:=h.rd;exact (rraw_calls B R A c l e W 32 (by decide) hr).mono fun x W' ⟨h1,h2,h3⟩=>⟨h1,h.kept h2 h3⟩
theorem C_low {A : Option Addr} {s : List Int} (h : Kd.C (Kd.int .u8) W A s.length s) (hA : ∀ ad,A = some ad → 0 < s.length → ad.block < B) (hb : Below B w W) (hb' : Below B w W') : Kd.C (Kd.int .u8) W' A s.length s:=
 C_stays h (fun ad e hn=>(hb'.block _ (hA ad e hn)).trans (hb.block _ (hA ad e hn)).symm)
theorem C_cell {A : Option Addr} {s : List Int} (h : Kd.C (Kd.int .u8) W A s.length s) (x : Int) (h0 : 0 ≤ x) (h1 : x < (s.length : Int)) : ∃ ad,A = some ad ∧ W.cell? (ad.add x.toNat) = some (.int .u8 (rd s x)):=Kd.at_int h x h0 h1
end
theorem built_oneE (v : Int) : Try.prog.built 33 [(0,.int .i64 v)] = some (zeroE.set 0 (.int .i64 v)).toArray:=by kernel_rfl
theorem fill_step (L : List Value) (s : List Int) (x : Nat) (hx : x < s.length) (hs : s.length ≤ 32) (hL : L.length = 49) (v : Int) (hv : s[x] = v) :
 (L.take 7 ++ u8s (s.take x) ++ L.drop (7 + x)).set (7 + x) (.int .u8 v) = L.take 7 ++ u8s (s.take (x + 1)) ++ L.drop (7 + (x + 1)):=by
 have e1 : (u8s (s.take x)).length = x:=by unfold u8s;rw [List.length_map,List.length_take];omega
 have e2 : (L.take 7 ++ u8s (s.take x)).length = 7 + x:=by rw [List.length_append,List.length_take,e1];omega
 rw [List.set_append_right _ _ (by omega),e2,Nat.sub_self,List.drop_eq_getElem_cons (show 7 + x < L.length by omega),List.set_cons_zero]
 have e3 : u8s (s.take (x + 1)) = u8s (s.take x) ++ [.int .u8 v]:=by unfold u8s;rw [List.take_succ_eq_append_getElem hx,List.map_append,hv];rfl
 rw [e3]
 simp [List.append_assoc,Nat.add_assoc]
set_option maxRecDepth 100000 in
set_option maxHeartbeats 32000000 in
theorem refDecodeExt_calls (A : Option Addr) (c : Nat) (l : List Int) (w : World) (hC : Kd.C (Kd.int .u8) w A l.length l) (hc : l.length ≤ c) (hby : IsBytes l) (hsh : l.length < 140737488355328) :
 Calls Try.prog 22 #[.slice A l.length c] w fun e w'=>(∃ (x : Ext) (A' : Option Addr) (c' : Nat),e = .returned (.tuple #[.agg (x.cells A' c').toArray,.int .i64 (errOf (decE l))]) ∧ x.sum.length = 32 ∧ Kd.C k25 w' A' x.call.f3.length x.call.f3 ∧ x.call.f3.length ≤ c' ∧ x = (decE l).getD (ext0 0 0)) ∧ Below w.heap.size w w':=by
 obtain ⟨B,hBe⟩ : ∃ B,B = w.heap.size:=⟨_,rfl⟩;rw [← hBe];obtain ⟨Z,hZ⟩ : ∃ Z,Z = zeroE:=⟨_,rfl⟩
 have hZl : Z.length = 49:=by rw [hZ];exact zeroE_length
 have hZo : ∀ v ∈ Z,v.oneCell' = true:=by rw [hZ];exact Ext.cells_one _ _ _
 have HAL : Aside0 (∀ w,(zeroValue 33).run Try.prog w = .ok (.agg Z.toArray) w):=⟨fun w=>by rw [hZ];exact zero_ext w⟩;have HBZ : Aside0 (∀ w,(Instr.build 33 #[]).run Try.prog w = .ok (.agg Z.toArray) w):=⟨fun w=>by rw [hZ];exact run_build w _ _ _ built_ext0⟩;have HZl:=am hZl;have HZo:=am hZo;have HZ:=am hZ;have HC:=am hC;have Hc:=am hc;have Hby:=am hby;have Hsh:=am hsh;have HBe:=am hBe;have Hfar : Aside0 (∀ ad,A = some ad → 0 < l.length → ad.block < B):=⟨fun ad e hn=>by rw [hBe];subst e;exact Kd.C_lt hC hn (by decide)⟩;clear hZ hZl hZo hC hc hby hsh hBe;go_enter Try.func22,Try.ntmps22
 go_upto_region 1 with ((with_reducible refine gate_dst (N:=2) rfl ?_);refine box_event ?hg (N:=2) ?hd (cs:=Z.toArray) (t:=33) ?hr ?_;(case hd=>rfl);(case hg=>rfl);(case hr=>first | (simp [execOp,Instr.alloc,HAL.out,newVar,newRow,go_sem];done) | (simp [execOp,Instr.alloc,HAL.out,newVar,newRow,go_sem];rfl) | (go_simp;done) | (go_simp;rfl));intro g2 hg_ w1 hbox_ hb_;have h2_ : Lies w1 g2 Z:=Lies.box hbox_;have G2:=am hg_;have L21:=am h2_;have B1:=am hb_;clear h2_;clear hg_ hbox_ hb_)
 go_upto_region 2 with ((with_reducible refine gate_dst (N:=13) rfl ?_);refine box_event ?hg (N:=13) ?hd (cs:=#[.slice A l.length c,.bool false]) (t:=80) ?hr ?_;(case hd=>rfl);(case hg=>rfl);(case hr=>first | (simp [execOp,Instr.alloc,HAL.out,newVar,newRow,go_sem];done) | (simp [execOp,Instr.alloc,HAL.out,newVar,newRow,go_sem];rfl) | (go_simp;done) | (go_simp;rfl));intro R hg_ w2 hbox_ hb_;have hr_ : Lies w2 R [.slice A l.length c,.bool false]:=Lies.box hbox_;have GR:=am hg_;have LR2:=am hr_;have B2:=am hb_;clear hr_;clear hg_ hbox_ hb_)
 have hlt2 : B ≤ g2 ∧ g2 < R ∧ R < w2.heap.size ∧ w1.heap.size ≤ w2.heap.size ∧ g2 < w1.heap.size ∧ B ≤ w1.heap.size:=by
  have e4:=G2.out;have eR:=GR.out;have eB:=HBe.out;have h1:=L21.out.lt (by rw [HZl.out];decide);have h2:=LR2.out.lt (by simp);have h3:=B1.out.size;have h4:=B2.out.size;exact ⟨by omega,by omega,by omega,by omega,by omega,by omega⟩
 have b2_ : Below B w w2:=by have eB:=HBe.out;rw [eB];exact below_step B1.out B2.out
 have hr2_ : RdAt B w2 R A c l false:=⟨LR2.out,Hc.out,Kd.C_below HC.out (by rw [← HBe.out];exact b2_),Hfar.out,Hby.out,Hsh.out,by omega⟩;have HR0z:=am hr2_;have L22:=am (L21.out.below B2.out (by omega));have B02:=am b2_;have Hlt2:=am hlt2;clear b2_ hr2_ hlt2;obtain ⟨v1,hv1⟩ : ∃ v,v = (rst l false 1).1:=⟨_,rfl⟩;have hn1:=rnum_calls B R A c l false w2 HR0z.out;rw [show rnum l false = rst l false 1 from rfl,← hv1] at hn1;have HV1:=am hv1;have HN1:=am hn1;clear hv1 hn1;obtain ⟨L1,hL1⟩ : ∃ L : List Value,L = Z.set 0 (.int .i64 v1):=⟨_,rfl⟩;have HL1:=am hL1;have HLl1 : Aside0 (L1.length = 49):=⟨by rw [hL1,List.length_set];exact HZl.out⟩
 have HLo1 : Aside0 (∀ v ∈ L1,v.oneCell' = true):=⟨by
  rw [hL1];intro v hv
  rcases List.mem_or_eq_of_mem_set hv with h | h
  ·exact HZo.out v h
  ·rw [h];rfl⟩
 have HB1 : Aside0 (∀ W,(Instr.build 33 #[(0,Value.int .i64 v1)]).run Try.prog W = .ok (.agg L1.toArray) W):=⟨fun W=>by rw [hL1,HZ.out];exact run_build W _ _ _ (built_oneE v1)⟩;clear hL1
 go_upto_region 3 with (first
  | (go_at_call 47;go_loud ((with_reducible refine HN1.out.mono ?_);rintro e w3 ⟨rfl,⟨A1,c1,hr_⟩,hk_⟩;have HR1:=am hr_;have HK1:=am hk_;clear hr_ hk_))
  | ((with_reducible refine gate_dst (N:=16) rfl ?_);refine Kd.event_run (v:= .agg L1.toArray) (w1:=w3) rfl (build_run1' rfl rfl (HB1.out w3)) ?_)
  | ((with_reducible refine gate_dst (N:=5) rfl ?_);refine box_event ?hg (N:=5) ?hd (cs:=Z.toArray) (t:=33) ?hr ?_;(case hd=>rfl);(case hg=>rfl);(case hr=>first | (simp [execOp,Instr.alloc,HAL.out,newVar,newRow,go_sem];done) | (simp [execOp,Instr.alloc,HAL.out,newVar,newRow,go_sem];rfl) | (go_simp;done) | (go_simp;rfl));intro g5 hg_ w4 hbox_ hb_;have hr_ : Lies w4 g5 Z:=Lies.box hbox_;have G5:=am hg_;have L54:=am hr_;have B4:=am hb_;clear hr_;clear hg_ hbox_ hb_)
  | ((with_reducible refine gate_store (t:=33) (p:=5) rfl ?_);refine wpList_store_mid rfl 33 _ _ rfl g5 0 L1.toArray rfl rfl (by rw [List.size_toArray,HLl1.out,← HZl.out];exact L54.out.there) (by rw [List.size_toArray,HLl1.out];exact info_ext') (all_oneCell_toArray HLo1.out) ?_))
 have nx_ : DecSt B w (w4.setCells g5 0 L1) R g2 g5 Z (rst l false 1).2.1 (rst l false 1).2.2 L1:=by
  have z3:=HK1.out.size;have z4:=B4.out.size;have e5:=G5.out;have gcl : g5 < w4.heap.size:=L54.out.lt (by rw [HZl.out];decide);have hl2:=Hlt2.out
  have n0_ : Lies (w4.setCells g5 0 L1) g5 L1:=by have:=L54.out.splice 0 L1 (by rw [HLl1.out,HZl.out];decide);rwa [List.take_zero,List.nil_append,List.drop_of_length_le (by rw [HLl1.out,HZl.out];decide),List.append_nil] at this
  have k0_ : Kept (fun k=>k = g5) w4 (w4.setCells g5 0 L1):=kept_setCells g5 0 L1 w4;have r0_:=(HR1.out.below B4.out).kept k0_ (fun k hk=>by have hk' : k = g5:=hk;omega) (by show ¬ R = g5;omega);have m4_:=((L22.out.kept HK1.out (by rw [HZl.out];decide) (by show ¬ g2 = R;omega)).below B4.out (by omega)).kept k0_ (by rw [HZl.out];decide) (by show ¬ g2 = g5;omega);have b0_ : Below B w (w4.setCells g5 0 L1):=below_setCells' g5 (by omega) L1 0 w4 ((HK1.out.to_below B02.out (by omega) (fun k hk=>by have hk' : k = R:=hk;omega)).trans (B4.out.mono (by omega)));exact ⟨⟨A1,c1,r0_⟩,n0_,m4_,b0_,by omega,by omega,by omega,by rw [HZl.out];decide,by rw [HLl1.out];decide,HBe.out⟩
 generalize World.setCells _ _ _ _ = w5 at nx_ ⊢;have HD1:=am nx_;clear nx_ HR0z L22 B02 Hlt2 HR1 HK1 L54 B4 G5;have hn2:=HD1.out.num;rw [show rnum (rst l false 1).2.1 (rst l false 1).2.2 = rst l false 2 from rfl] at hn2;obtain ⟨v2,hv2⟩ : ∃ v,v = (rst l false 2).1:=⟨_,rfl⟩;rw [← hv2] at hn2;obtain ⟨u2,hu2⟩ : ∃ u,L1[1]? = some u:=⟨_,List.getElem?_eq_getElem (by rw [HLl1.out];decide)⟩;have HU2:=am hu2;have HV2:=am hv2;have HN2:=am hn2;clear hn2 hv2 hu2
 go_upto_region 4 with (go_at_call 47;go_loud ((with_reducible refine HN2.out.mono ?_);rintro e w2c ⟨rfl,hd_⟩;have uC:=hd_.ext.cell HU2.out;have fC:=hd_.ext.frozen 1 (by rw [HLl1.out];decide);have HDc:=am hd_;clear hd_))
 have nx_:=HDc.out.set 1 (by rw [HLl1.out];decide) (.int .i64 v2);clear uC fC HDc;generalize World.setCell _ _ _ = w2 at nx_ ⊢;obtain ⟨L2,hL2⟩ : ∃ L,L = L1.set 1 (.int .i64 v2):=⟨_,rfl⟩;rw [← hL2] at nx_;have HLl2 : Aside0 (L2.length = 49):=⟨by rw [hL2,List.length_set];exact HLl1.out⟩;have HL2:=am hL2;have HD2:=am nx_;clear nx_ hL2;have hn3:=HD2.out.num;rw [show rnum (rst l false 2).2.1 (rst l false 2).2.2 = rst l false 3 from rfl] at hn3;obtain ⟨v3,hv3⟩ : ∃ v,v = (rst l false 3).1:=⟨_,rfl⟩;rw [← hv3] at hn3;obtain ⟨u3,hu3⟩ : ∃ u,L2[2]? = some u:=⟨_,List.getElem?_eq_getElem (by rw [HLl2.out];decide)⟩;have HU3:=am hu3;have HV3:=am hv3;have HN3:=am hn3;clear hn3 hv3 hu3
 go_upto_region 5 with (go_at_call 47;go_loud ((with_reducible refine HN3.out.mono ?_);rintro e w3c ⟨rfl,hd_⟩;have uC:=hd_.ext.cell HU3.out;have fC:=hd_.ext.frozen 2 (by rw [HLl2.out];decide);have HDc:=am hd_;clear hd_))
 have nx_:=HDc.out.set 2 (by rw [HLl2.out];decide) (.int .i64 v3);clear uC fC HDc;generalize World.setCell _ _ _ = w3 at nx_ ⊢;obtain ⟨L3,hL3⟩ : ∃ L,L = L2.set 2 (.int .i64 v3):=⟨_,rfl⟩;rw [← hL3] at nx_;have HLl3 : Aside0 (L3.length = 49):=⟨by rw [hL3,List.length_set];exact HLl2.out⟩;have HL3:=am hL3;have HD3:=am nx_;clear nx_ hL3;have hn4:=HD3.out.num;rw [show rnum (rst l false 3).2.1 (rst l false 3).2.2 = rst l false 4 from rfl] at hn4;obtain ⟨v4,hv4⟩ : ∃ v,v = (rst l false 4).1:=⟨_,rfl⟩;rw [← hv4] at hn4;obtain ⟨u4,hu4⟩ : ∃ u,L3[3]? = some u:=⟨_,List.getElem?_eq_getElem (by rw [HLl3.out];decide)⟩;have HU4:=am hu4;have HV4:=am hv4;have HN4:=am hn4;clear hn4 hv4 hu4
 go_upto_region 6 with (go_at_call 47;go_loud ((with_reducible refine HN4.out.mono ?_);rintro e w4c ⟨rfl,hd_⟩;have uC:=hd_.ext.cell HU4.out;have fC:=hd_.ext.frozen 3 (by rw [HLl3.out];decide);have HDc:=am hd_;clear hd_))
 have nx_:=HDc.out.set 3 (by rw [HLl3.out];decide) (.int .i64 v4);clear uC fC HDc;generalize World.setCell _ _ _ = w4 at nx_ ⊢;obtain ⟨L4,hL4⟩ : ∃ L,L = L3.set 3 (.int .i64 v4):=⟨_,rfl⟩;rw [← hL4] at nx_;have HLl4 : Aside0 (L4.length = 49):=⟨by rw [hL4,List.length_set];exact HLl3.out⟩;have HL4:=am hL4;have HD4:=am nx_;clear nx_ hL4;have hn5:=HD4.out.num;rw [show rnum (rst l false 4).2.1 (rst l false 4).2.2 = rst l false 5 from rfl] at hn5;obtain ⟨v5,hv5⟩ : ∃ v,v = (rst l false 5).1:=⟨_,rfl⟩;rw [← hv5] at hn5;obtain ⟨u5,hu5⟩ : ∃ u,L4[4]? = some u:=⟨_,List.getElem?_eq_getElem (by rw [HLl4.out];decide)⟩;have HU5:=am hu5;have HV5:=am hv5;have HN5:=am hn5;clear hn5 hv5 hu5
 go_upto_region 7 with (go_at_call 47;go_loud ((with_reducible refine HN5.out.mono ?_);rintro e w5c ⟨rfl,hd_⟩;have uC:=hd_.ext.cell HU5.out;have fC:=hd_.ext.frozen 4 (by rw [HLl4.out];decide);have HDc:=am hd_;clear hd_))
 have nx_:=HDc.out.set 4 (by rw [HLl4.out];decide) (.int .i64 v5);clear uC fC HDc;generalize World.setCell _ _ _ = w5 at nx_ ⊢;obtain ⟨L5,hL5⟩ : ∃ L,L = L4.set 4 (.int .i64 v5):=⟨_,rfl⟩;rw [← hL5] at nx_;have HLl5 : Aside0 (L5.length = 49):=⟨by rw [hL5,List.length_set];exact HLl4.out⟩;have HL5:=am hL5;have HD5:=am nx_;clear nx_ hL5;have hn6:=HD5.out.num;rw [show rnum (rst l false 5).2.1 (rst l false 5).2.2 = rst l false 6 from rfl] at hn6;obtain ⟨v6,hv6⟩ : ∃ v,v = (rst l false 6).1:=⟨_,rfl⟩;rw [← hv6] at hn6;obtain ⟨u6,hu6⟩ : ∃ u,L5[5]? = some u:=⟨_,List.getElem?_eq_getElem (by rw [HLl5.out];decide)⟩;have HU6:=am hu6;have HV6:=am hv6;have HN6:=am hn6;clear hn6 hv6 hu6
 go_upto_region 8 with (go_at_call 47;go_loud ((with_reducible refine HN6.out.mono ?_);rintro e w6c ⟨rfl,hd_⟩;have uC:=hd_.ext.cell HU6.out;have fC:=hd_.ext.frozen 5 (by rw [HLl5.out];decide);have HDc:=am hd_;clear hd_))
 have nx_:=HDc.out.set 5 (by rw [HLl5.out];decide) (.int .i64 v6);clear uC fC HDc;generalize World.setCell _ _ _ = w6 at nx_ ⊢;obtain ⟨L6,hL6⟩ : ∃ L,L = L5.set 5 (.int .i64 v6):=⟨_,rfl⟩;rw [← hL6] at nx_;have HLl6 : Aside0 (L6.length = 49):=⟨by rw [hL6,List.length_set];exact HLl5.out⟩;have HL6:=am hL6;have HD6:=am nx_;clear nx_ hL6;have hn7:=HD6.out.num;rw [show rnum (rst l false 6).2.1 (rst l false 6).2.2 = rst l false 7 from rfl] at hn7;obtain ⟨v7,hv7⟩ : ∃ v,v = (rst l false 7).1:=⟨_,rfl⟩;rw [← hv7] at hn7;obtain ⟨u7,hu7⟩ : ∃ u,L6[6]? = some u:=⟨_,List.getElem?_eq_getElem (by rw [HLl6.out];decide)⟩;have HU7:=am hu7;have HV7:=am hv7;have HN7:=am hn7;clear hn7 hv7 hu7
 go_upto_region 9 with (go_at_call 47;go_loud ((with_reducible refine HN7.out.mono ?_);rintro e w7c ⟨rfl,hd_⟩;have uC:=hd_.ext.cell HU7.out;have fC:=hd_.ext.frozen 6 (by rw [HLl6.out];decide);have HDc:=am hd_;clear hd_))
 have nx_:=HDc.out.set 6 (by rw [HLl6.out];decide) (.int .i64 v7);clear uC fC HDc;generalize World.setCell _ _ _ = w7 at nx_ ⊢;obtain ⟨L7,hL7⟩ : ∃ L,L = L6.set 6 (.int .i64 v7):=⟨_,rfl⟩;rw [← hL7] at nx_;have HLl7 : Aside0 (L7.length = 49):=⟨by rw [hL7,List.length_set];exact HLl6.out⟩;have HL7:=am hL7;have HD7:=am nx_;clear nx_ hL7;have hraw:=HD7.out.raw;rw [show rraw 32 (rst l false 7).2.1 (rst l false 7).2.2 = rS l from rfl] at hraw;have HRAW:=am hraw;clear hraw
 go_upto_region 10 with (go_at_call 48;go_loud ((with_reducible refine HRAW.out.mono ?_);rintro e w8 ⟨⟨As,cs,rfl,hcs_,hCs_,hfs_⟩,hd_⟩;have Hcs:=am hcs_;have HCs:=am hCs_;have Hfs:=am hfs_;have HD8:=am hd_;clear hcs_ hCs_ hfs_ hd_))
 obtain ⟨s,hs⟩ : ∃ s,s = (rS l).1:=⟨_,rfl⟩;have HCS : Aside0 (∀ W,Below B w W → Kd.C (Kd.int .u8) W As s.length s):=⟨fun W hb=>by rw [hs];exact C_low HCs.out Hfs.out HD8.out.low hb⟩;rw [← hs];have HS:=am hs
 have hs32 : s.length ≤ 32:=by rw [hs];rcases rS_length l with h | h <;> rw [h] <;> decide
 have hslot : s.length ≤ 32 ∧ IsBytes s:=⟨hs32,by rw [hs];exact (rS_bytes Hby.out).1⟩;have HS32:=am hslot;clear hs HCs Hfs hslot HRAW
 go_wp2
 go_loopw [7] (fun i wr=>∃ x : Int,i = .int .i64 x ∧ (0 ≤ x ∧ x ≤ (s.length : Int)) ∧ Aside0 (DecSt B w wr R g2 g5 Z (rS l).2.1 (rS l).2.2 (L7.take 7 ++ u8s (s.take x.toNat) ++ L7.drop (7 + x.toNat))))
  (fun i _=>s.length - (intOf i).toNat)
 case atStart=>exact ⟨0,rfl,⟨by omega,by omega⟩,⟨by
  have e : L7.take 7 ++ u8s (s.take (0 : Int).toNat) ++ L7.drop (7 + (0 : Int).toNat) = L7:=by
   rw [show (0 : Int).toNat = 0 from rfl,List.take_zero,show u8s [] = [] from rfl,List.append_nil,Nat.add_zero,List.take_append_drop]
  rw [e];exact HD8.out⟩⟩
 case round=>
 clear HD8;obtain ⟨x,rfl,⟨hx0,hx1⟩,HV⟩:=hrel
 by_cases hlt : x < (s.length : Int)
 ·have d0 : decide (x < (s.length : Int)) = true:=decide_eq_true hlt
  have xw : wrap64 (x + 1) = x + 1:=by unfold wrap64;omega
  have hxl : x.toNat < s.length:=by omega
  obtain ⟨ad,hA,hce⟩:=C_cell (HCS.out wr HV.out.low) x hx0 hlt;subst hA
  have hrd : rd s x = s[x.toNat]:=by have:=rd_nat s x.toNat hxl;rwa [Int.toNat_of_nonneg hx0] at this
  obtain ⟨v,hv⟩ : ∃ v,v = rd s x:=⟨_,rfl⟩;rw [← hv] at hce;have HVv : Aside0 (∀ h : x.toNat < s.length,s[x.toNat]'h = v):=⟨fun _=>by rw [hv,hrd]⟩;obtain ⟨L,hL⟩ : ∃ L,L = L7.take 7 ++ u8s (s.take x.toNat) ++ L7.drop (7 + x.toNat):=⟨_,rfl⟩;have HDx : Aside0 (DecSt B w wr R g2 g5 Z (rS l).2.1 (rS l).2.2 L):=⟨by rw [hL];exact HV.out⟩
  have hLl : L.length = 49:=by
   rw [hL,List.length_append,List.length_append,List.length_take,List.length_drop,HLl7.out]
   have : (u8s (s.take x.toNat)).length = x.toNat:=by unfold u8s;rw [List.length_map,List.length_take];omega
   omega
  have HL:=am hL;obtain ⟨u,hu⟩ : ∃ u,L[7 + x.toNat]? = some u:=⟨_,List.getElem?_eq_getElem (by omega)⟩;have uC:=HDx.out.ext.cell hu;have fC:=HDx.out.ext.frozen (7 + x.toNat) (by omega);have HX:=am hxl;have HLL:=am hLl;have a0 : (0 : Int) ≤ x:=hx0
  have a1 : x < 32:=by omega
  clear hxl hrd hv hL hu HV hLl
  go_wp2
  have nx_:=HDx.out.set (7 + x.toNat) (by rw [HLL.out];have:=HX.out;omega) (.int .u8 v);rw [HL.out,fill_step L7 s x.toNat HX.out hs32 HLl7.out v (HVv.out HX.out)] at nx_;exact ⟨⟨x + 1,by first | rfl | (rw [xw]) | (simp [xw]),⟨by omega,by omega⟩,⟨by rw [show (x + 1).toNat = x.toNat + 1 by omega];exact nx_⟩⟩,by simp [intOf];omega⟩
 have hxe : x = (s.length : Int):=by omega
 have d0 : decide (x < (s.length : Int)) = false:=decide_eq_false hlt;obtain ⟨L8,hL8⟩ : ∃ L,L = L7.take 7 ++ u8s s ++ L7.drop (7 + s.length):=⟨_,rfl⟩
 have HDx : Aside0 (DecSt B w wr R g2 g5 Z (rS l).2.1 (rS l).2.2 L8):=⟨by
  have:=HV.out;rw [hxe,Int.toNat_natCast,List.take_length,← hL8] at this
  exact this⟩
 have HLl8 : Aside0 (L8.length = 49):=⟨by
  rw [hL8,List.length_append,List.length_append,List.length_take,List.length_drop,HLl7.out];have : (u8s s).length = s.length:=List.length_map ..
  omega⟩
 have HL8:=am hL8;have HD8 : Aside0 (DecSt B w wr R g2 g5 Z (rV l 0).2.1 (rV l 0).2.2 L8):=⟨HDx.out⟩;clear hL8 HV HDx hlt hx0 hx1 hxe
 go_upto_region 14 with (fail)
 clear d0;have hn9:=HD8.out.num;rw [show rnum (rV l 0).2.1 (rV l 0).2.2 = rV l 1 from rfl] at hn9;obtain ⟨v9,hv9⟩ : ∃ v,v = (rV l 1).1:=⟨_,rfl⟩;rw [← hv9] at hn9;obtain ⟨u9,hu9⟩ : ∃ u,L8[39]? = some u:=⟨_,List.getElem?_eq_getElem (by rw [HLl8.out];decide)⟩;have HU9:=am hu9;have HV9:=am hv9;have HN9:=am hn9;clear hn9 hv9 hu9
 go_upto_region 15 with (go_at_call 47;go_loud ((with_reducible refine HN9.out.mono ?_);rintro e w9c ⟨rfl,hd_⟩;have uC:=hd_.ext.cell HU9.out;have fC:=hd_.ext.frozen 39 (by rw [HLl8.out];decide);have HDc:=am hd_;clear hd_))
 have nx_:=HDc.out.set 39 (by rw [HLl8.out];decide) (.int .i64 v9);clear uC fC HDc;generalize World.setCell _ _ _ = w9 at nx_ ⊢;obtain ⟨L9,hL9⟩ : ∃ L,L = L8.set 39 (.int .i64 v9):=⟨_,rfl⟩;rw [← hL9] at nx_;have HLl9 : Aside0 (L9.length = 49):=⟨by rw [hL9,List.length_set];exact HLl8.out⟩;have HL9:=am hL9;have HD9:=am nx_;clear nx_ hL9;have hn10:=HD9.out.num;rw [show rnum (rV l 1).2.1 (rV l 1).2.2 = rV l 2 from rfl] at hn10;obtain ⟨v10,hv10⟩ : ∃ v,v = (rV l 2).1:=⟨_,rfl⟩;rw [← hv10] at hn10;obtain ⟨u10,hu10⟩ : ∃ u,L9[42]? = some u:=⟨_,List.getElem?_eq_getElem (by rw [HLl9.out];decide)⟩;have HU10:=am hu10;have HV10:=am hv10;have HN10:=am hn10;clear hn10 hv10 hu10
 go_upto_region 16 with (go_at_call 47;go_loud ((with_reducible refine HN10.out.mono ?_);rintro e w10c ⟨rfl,hd_⟩;have uC:=hd_.ext.cell HU10.out;have fC:=hd_.ext.frozen 42 (by rw [HLl9.out];decide);have HDc:=am hd_;clear hd_))
 have nx_:=HDc.out.set 42 (by rw [HLl9.out];decide) (.int .i64 v10);clear uC fC HDc;generalize World.setCell _ _ _ = w10 at nx_ ⊢;obtain ⟨L10,hL10⟩ : ∃ L,L = L9.set 42 (.int .i64 v10):=⟨_,rfl⟩;rw [← hL10] at nx_;have HLl10 : Aside0 (L10.length = 49):=⟨by rw [hL10,List.length_set];exact HLl9.out⟩;have HL10:=am hL10;have HD10:=am nx_;clear nx_ hL10;have hn11:=HD10.out.num;rw [show rnum (rV l 2).2.1 (rV l 2).2.2 = rV l 3 from rfl] at hn11;obtain ⟨v11,hv11⟩ : ∃ v,v = (rV l 3).1:=⟨_,rfl⟩;rw [← hv11] at hn11;obtain ⟨u11,hu11⟩ : ∃ u,L10[43]? = some u:=⟨_,List.getElem?_eq_getElem (by rw [HLl10.out];decide)⟩;have HU11:=am hu11;have HV11:=am hv11;have HN11:=am hn11;clear hn11 hv11 hu11
 go_upto_region 17 with (go_at_call 47;go_loud ((with_reducible refine HN11.out.mono ?_);rintro e w11c ⟨rfl,hd_⟩;have uC:=hd_.ext.cell HU11.out;have fC:=hd_.ext.frozen 43 (by rw [HLl10.out];decide);have HDc:=am hd_;clear hd_))
 have nx_:=HDc.out.set 43 (by rw [HLl10.out];decide) (.int .i64 v11);clear uC fC HDc;generalize World.setCell _ _ _ = w11 at nx_ ⊢;obtain ⟨L11,hL11⟩ : ∃ L,L = L10.set 43 (.int .i64 v11):=⟨_,rfl⟩;rw [← hL11] at nx_;have HLl11 : Aside0 (L11.length = 49):=⟨by rw [hL11,List.length_set];exact HLl10.out⟩;have HL11:=am hL11;have HD11:=am nx_;clear nx_ hL11;have hn12:=HD11.out.num;rw [show rnum (rV l 3).2.1 (rV l 3).2.2 = rV l 4 from rfl] at hn12;obtain ⟨v12,hv12⟩ : ∃ v,v = (rV l 4).1:=⟨_,rfl⟩;rw [← hv12] at hn12;obtain ⟨u12,hu12⟩ : ∃ u,L11[44]? = some u:=⟨_,List.getElem?_eq_getElem (by rw [HLl11.out];decide)⟩;have HU12:=am hu12;have HV12:=am hv12;have HN12:=am hn12;clear hn12 hv12 hu12
 go_upto_region 18 with (go_at_call 47;go_loud ((with_reducible refine HN12.out.mono ?_);rintro e w12c ⟨rfl,hd_⟩;have uC:=hd_.ext.cell HU12.out;have fC:=hd_.ext.frozen 44 (by rw [HLl11.out];decide);have HDc:=am hd_;clear hd_))
 have nx_:=HDc.out.set 44 (by rw [HLl11.out];decide) (.int .i64 v12);clear uC fC HDc;generalize World.setCell _ _ _ = w12 at nx_ ⊢;obtain ⟨L12,hL12⟩ : ∃ L,L = L11.set 44 (.int .i64 v12):=⟨_,rfl⟩;rw [← hL12] at nx_;have HLl12 : Aside0 (L12.length = 49):=⟨by rw [hL12,List.length_set];exact HLl11.out⟩;have HL12:=am hL12;have HD12:=am nx_;clear nx_ hL12;have hn13:=HD12.out.num;rw [show rnum (rV l 4).2.1 (rV l 4).2.2 = rV l 5 from rfl] at hn13;obtain ⟨v13,hv13⟩ : ∃ v,v = (rV l 5).1:=⟨_,rfl⟩;rw [← hv13] at hn13;obtain ⟨u13,hu13⟩ : ∃ u,L12[41]? = some u:=⟨_,List.getElem?_eq_getElem (by rw [HLl12.out];decide)⟩;have HU13:=am hu13;have HV13:=am hv13;have HN13:=am hn13;clear hn13 hv13 hu13
 go_upto_region 19 with (go_at_call 47;go_loud ((with_reducible refine HN13.out.mono ?_);rintro e w13c ⟨rfl,hd_⟩;have uC:=hd_.ext.cell HU13.out;have fC:=hd_.ext.frozen 41 (by rw [HLl12.out];decide);have HDc:=am hd_;clear hd_))
 have nx_:=HDc.out.set 41 (by rw [HLl12.out];decide) (.int .i64 v13);clear uC fC HDc;generalize World.setCell _ _ _ = w13 at nx_ ⊢;obtain ⟨L13,hL13⟩ : ∃ L,L = L12.set 41 (.int .i64 v13):=⟨_,rfl⟩;rw [← hL13] at nx_;have HLl13 : Aside0 (L13.length = 49):=⟨by rw [hL13,List.length_set];exact HLl12.out⟩;have HL13:=am hL13;have HD13:=am nx_;clear nx_ hL13;have hn14:=HD13.out.num;rw [show rnum (rV l 5).2.1 (rV l 5).2.2 = rV l 6 from rfl] at hn14;obtain ⟨v14,hv14⟩ : ∃ v,v = (rV l 6).1:=⟨_,rfl⟩;rw [← hv14] at hn14;obtain ⟨u14,hu14⟩ : ∃ u,L13[40]? = some u:=⟨_,List.getElem?_eq_getElem (by rw [HLl13.out];decide)⟩;have HU14:=am hu14;have HV14:=am hv14;have HN14:=am hn14;clear hn14 hv14 hu14;obtain ⟨f14,hf14⟩ : ∃ f,f = decide (v14 = 1):=⟨_,rfl⟩;have HF14:=am hf14
 have db_ : (v14 == 1) = f14:=by rw [beq_dec,hf14]
 clear hf14
 go_upto_region 20 with (go_at_call 47;go_loud ((with_reducible refine HN14.out.mono ?_);rintro e w14c ⟨rfl,hd_⟩;have uC:=hd_.ext.cell HU14.out;have fC:=hd_.ext.frozen 40 (by rw [HLl13.out];decide);have HDc:=am hd_;clear hd_))
 have nx_:=HDc.out.set 40 (by rw [HLl13.out];decide) (.bool f14);clear uC fC HDc db_;generalize World.setCell _ _ _ = w14 at nx_ ⊢;obtain ⟨L14,hL14⟩ : ∃ L,L = L13.set 40 (.bool f14):=⟨_,rfl⟩;rw [← hL14] at nx_;have HLl14 : Aside0 (L14.length = 49):=⟨by rw [hL14,List.length_set];exact HLl13.out⟩;have HL14:=am hL14;have HD14:=am nx_;clear nx_ hL14;have hrow:=HD14.out.row;rw [show rrow (rV l 6).2.1 (rV l 6).2.2 = rC l from rfl] at hrow;obtain ⟨p,hp⟩ : ∃ p,p = (rC l).1:=⟨_,rfl⟩;rw [← hp] at hrow;have HROW:=am hrow;have HP:=am hp;have HPB : Aside0 (IsBytes p):=⟨by rw [hp];exact rC_bytes Hby.out⟩;clear hrow hp
 go_upto_region 21 with (go_at_call 49;go_loud ((with_reducible refine HROW.out.mono ?_);rintro e w15 ⟨⟨Ap,cp,rfl,hcs_,hCs_,hfs_⟩,hd_⟩;have Hcp:=am hcs_;have HCp:=am hCs_;have HD15:=am hd_;clear hcs_ hCs_ hfs_ hd_))
 -- the extrinsic's cells
 obtain ⟨r,hr⟩ : ∃ r,r = rawR l:=⟨_,rfl⟩;have H32 : Aside0 (r.sum.length = 32 ∧ IsBytes r.sum):=⟨by rw [hr];exact ⟨fillS_length (by have:=HS32.out.1;rw [HS.out] at this;exact this),fillS_bytes (by have:=HS32.out.2;rw [HS.out] at this;exact this)⟩⟩
 have hcells : L14 = (cells0 r.head r.sum r.vote).set 40 (.bool (decide (at0 r.vote 5 = 1))):=by
  rw [HL14.out,HF14.out,HV14.out,hr]
  congr 1
  ·show L13 = cells0 (rH l) (fillS (rS l).1) (rVs l)
   rw [← cells0_fill _ _ _ (rS_length l),HL13.out,HL12.out,HL11.out,HL10.out,HL9.out,HL8.out,HS.out,HV13.out,HV12.out,HV11.out,HV10.out,HV9.out]
   unfold cells0 setV
   have e7 : L7 = setH zeroE (rH l):=by
    rw [HL7.out,HL6.out,HL5.out,HL4.out,HL3.out,HL2.out,HL1.out,HZ.out,HV7.out,HV6.out,HV5.out,HV4.out,HV3.out,HV2.out,HV1.out]
    rfl
   rw [e7]
   rfl
 have HCELLS:=am hcells;have Hr:=am hr;have HRE : Aside0 (readE l = toE r (callR p)):=⟨by rw [hr,HP.out];rfl⟩
 have HPS : Aside0 (p.length < 140737488355328):=⟨by
  have:=HCp.out.2.1;have h2:=Hsh.out
  have h3 : p.length ≤ l.length:=by rw [HP.out];exact rC_le Hby.out
  omega⟩
 clear hcells hr
 by_cases hp0 : p.length > 0
 rotate_left
 ·have dp : decide ((p.length : Int) > 0) = false:=decide_eq_false (by omega);have dp2 : decide ((0 : Int) < (p.length : Int)) = false:=decide_eq_false (by omega);have dp3 : decide (0 < p.length) = false:=decide_eq_false (by omega)
  have hp1 : ¬ 0 < p.length:=by omega
  have HCR : Aside0 (callR p = z25):=⟨by unfold callR;rw [if_neg hp0]⟩;obtain ⟨A3,hA3⟩ : ∃ A3 : Option Addr,A3 = none:=⟨_,rfl⟩;obtain ⟨n3,hn3⟩ : ∃ n3 : Nat,n3 = 0:=⟨_,rfl⟩;obtain ⟨LE,hLE⟩ : ∃ LE,LE = (readE l).cells A3 n3:=⟨_,rfl⟩
  have heq : L14 = LE:=by rw [HCELLS.out,hLE,HRE.out,HCR.out,hA3,hn3];exact cells1_none H32.out.1 H32.out.2
  have nx_:=HD15.out;rw [heq] at nx_;have HDW:=am nx_;have HLE:=am hLE
  have ecall : (readE l).call = z25:=by rw [HRE.out,HCR.out];rfl
  have Hn3 : Aside0 ((readE l).call.f3.length ≤ n3):=⟨by rw [ecall];exact Nat.zero_le _⟩;have HCKW : Aside0 (∀ W,Kept (fun k=>k = g2 ∨ k = g5) w15 W → Kd.C k25 W A3 (readE l).call.f3.length (readE l).call.f3):=⟨fun W _=>by rw [ecall,hA3];exact Kd.C_nil _ _⟩;have HCK : Aside0 (Kd.C k25 w15 A3 (readE l).call.f3.length (readE l).call.f3):=⟨HCKW.out w15 (Kept.refl _ _)⟩;clear nx_ hA3 hn3 hLE heq ecall hp0
  go_upto_region 23 with (fail)
  clear dp dp2 dp3 hp1;obtain ⟨rr,hrr⟩ : ∃ rr,isExtP (readE l) = rr:=⟨_,rfl⟩;obtain ⟨be,hbe⟩ : ∃ be,bytesE (readE l) = be:=⟨_,rfl⟩;have HALL : Aside0 (Calls Try.prog 20 #[.agg LE.toArray] w15 fun e w'=>∃ v0 : Value,e = .returned (.tuple #[v0,.int .i64 (errE rr)]) ∧ Kd.R (Kd.int .u8) 5 w' w15.heap.size (fun _=>True) v0 be ∧ Below w15.heap.size w15 w'):=⟨by rw [HLE.out,← hrr,← hbe];exact refEncodeExt_calls (readE l) A3 n3 w15 (readE_sum l) (HCK.out) Hn3.out⟩;have HRR:=am hrr;have HBE:=am hbe;have HLEl : Aside0 (LE.length = 49):=⟨by rw [HLE.out];exact Ext.cells_length _ _ _ (readE_sum l)⟩;have hdr:=decE_read Hby.out;rw [hrr] at hdr;have HDR:=am hdr;clear hrr hbe hdr
  cases rr with
  | false=>
    have HNO : Aside0 (decE l = none):=⟨by rw [HDR.out,if_neg (by simp)]⟩
    go_upto_region 25 with (first
     | ((with_reducible refine gate_dst (N:=84) rfl ?_);refine wpList_load_mid rfl 33 _ rfl g5 0 rfl LE _ HDW.out.ext.range Try.underlying33 rfl (by rw [HLEl.out];exact info_ext') ?_)
     | (go_at_call 20;go_loud ((with_reducible refine HALL.out.mono ?_);rintro e w17 ⟨v17,rfl,hr_,hb_⟩;rw [show errE false = 1 from rfl];have HD:=am (HDW.out.below hb_);clear hr_ hb_)))
    go_wp2_with (first
     | ((with_reducible refine gate_dst (N:=97) rfl ?_);refine Kd.event_run (v:= .agg Z.toArray) (w1:=w17) rfl (build_run0' rfl (HBZ.out w17)) ?_)
     | ((with_reducible refine gate_store (t:=33) (p:=2) rfl ?_);refine wpList_store_mid rfl 33 _ _ rfl g2 0 Z.toArray rfl rfl (by rw [List.size_toArray,HZl.out,← HZl.out];exact HD.out.res.there) (by rw [List.size_toArray,HZl.out];exact info_ext') (all_oneCell_toArray HZo.out) ?_))
    have BR:=World.rangeAt_setCells_same w17 g2 0 Z (by rw [HZl.out,← HZl.out];exact HD.out.res.there);have hres:=run_loadVar_mid (P:=Try.prog) (w17.setCells g2 0 Z) g2 0 33 Z _ BR Try.underlying33 rfl (by rw [HZl.out];exact info_ext');refine bodyPost_ret (results_cell_tmp rfl _ rfl hres) rfl ?_;refine ⟨⟨ext0 0 0,none,0,?_,rfl,Kd.C_nil _ _,Nat.le_refl _,?_⟩,below_setCells' g2 HD.out.lt2 Z 0 w17 HD.out.low⟩
    ·rw [HNO.out,show (ext0 0 0).cells none 0 = Z from HZ.out.symm];rfl
    ·rw [HNO.out];rfl
  | true=>
    have e1 : bytesE (readE l) = encE (readE l):=by unfold bytesE;rw [HRR.out,if_pos rfl]
    have E1:=am e1;clear e1
    by_cases heq : be = l
    ·have HYES : Aside0 (decE l = some (readE l)):=⟨by rw [HDR.out,if_pos ⟨rfl,by rw [← E1.out,HBE.out,heq]⟩]⟩;subst heq
     go_upto_region 26 with (first
      | ((with_reducible refine gate_dst (N:=84) rfl ?_);refine wpList_load_mid rfl 33 _ rfl g5 0 rfl LE _ HDW.out.ext.range Try.underlying33 rfl (by rw [HLEl.out];exact info_ext') ?_)
      | (go_at_call 20;go_loud ((with_reducible refine HALL.out.mono ?_);rintro e w17 ⟨v17,rfl,hr_,hb_⟩;rw [show errE true = 0 from rfl];obtain ⟨A17,c17,hv_,hc_,hC_⟩:=Kd.R_reads hr_;subst hv_;have HD:=am (HDW.out.below hb_);have HB17:=am hb_;have kc1:=Kd.C_string (P:=Try.prog) (A:=A17) (c:=c17) Try.underlying38 Try.underlying5 Try.underlying9 hC_;have kc2:=Kd.C_string (P:=Try.prog) (A:=A) (c:=c) Try.underlying38 Try.underlying5 Try.underlying9 (Kd.C_below HC.out (by rw [← HBe.out];exact (HDW.out.below hb_).low));clear hr_ hb_ hc_ hC_)))
     clear kc1 kc2
     go_wp2_with (first
      | ((with_reducible refine gate_dst (N:=98) rfl ?_);refine wpList_load_mid rfl 33 _ rfl g5 0 rfl LE _ HD.out.ext.range Try.underlying33 rfl (by rw [HLEl.out];exact info_ext') ?_)
      | ((with_reducible refine gate_store (t:=33) (p:=2) rfl ?_);refine wpList_store_mid rfl 33 _ _ rfl g2 0 LE.toArray rfl rfl (by rw [List.size_toArray,HLEl.out,← HZl.out];exact HD.out.res.there) (by rw [List.size_toArray,HLEl.out];exact info_ext') (all_oneCell_toArray (by rw [HLE.out];exact Ext.cells_one _ _ _)) ?_))
     have BR:=World.rangeAt_setCells_same w17 g2 0 LE (by rw [HLEl.out,← HZl.out];exact HD.out.res.there);have hres:=run_loadVar_mid (P:=Try.prog) (w17.setCells g2 0 LE) g2 0 33 LE _ BR Try.underlying33 rfl (by rw [HLEl.out];exact info_ext');refine bodyPost_ret (results_cell_tmp rfl _ rfl hres) rfl ?_;refine ⟨⟨readE _,A3,n3,?_,readE_sum _,?_,Hn3.out,?_⟩,below_setCells' g2 HD.out.lt2 LE 0 w17 HD.out.low⟩
     ·rw [HYES.out,← HLE.out];rfl
     ·exact HCKW.out _ (((Kept.of_below HB17.out).step (kept_setCells g2 0 LE w17)).mono (fun k h=> .inl h))
     ·rw [HYES.out];rfl
    have HNO : Aside0 (decE l = none):=⟨by rw [HDR.out,if_neg (fun h=>heq (by rw [← HBE.out,E1.out];exact h.2))]⟩;have hsn : ¬ (strOfNums be).toList = (strOfNums l).toList:=fun h=>heq ((strOf_inj (by rw [← HBE.out,E1.out];exact encE_bytes _) Hby.out).1 h);have sn1 : ((strOfNums be).toList == (strOfNums l).toList) = false:=beq_eq_false_iff_ne.mpr hsn;have sn2 : ((strOfNums be).toList != (strOfNums l).toList) = true:=bne_iff_ne.mpr hsn;clear hsn heq
    go_upto_region 25 with (first
     | ((with_reducible refine gate_dst (N:=84) rfl ?_);refine wpList_load_mid rfl 33 _ rfl g5 0 rfl LE _ HDW.out.ext.range Try.underlying33 rfl (by rw [HLEl.out];exact info_ext') ?_)
     | (go_at_call 20;go_loud ((with_reducible refine HALL.out.mono ?_);rintro e w17 ⟨v17,rfl,hr_,hb_⟩;rw [show errE true = 0 from rfl];obtain ⟨A17,c17,hv_,hc_,hC_⟩:=Kd.R_reads hr_;subst hv_;have HD:=am (HDW.out.below hb_);have kc1:=Kd.C_string (P:=Try.prog) (A:=A17) (c:=c17) Try.underlying38 Try.underlying5 Try.underlying9 hC_;have kc2:=Kd.C_string (P:=Try.prog) (A:=A) (c:=c) Try.underlying38 Try.underlying5 Try.underlying9 (Kd.C_below HC.out (by rw [← HBe.out];exact (HDW.out.below hb_).low));clear hr_ hb_ hc_ hC_)))
    go_wp2_with (first
     | ((with_reducible refine gate_dst (N:=97) rfl ?_);refine Kd.event_run (v:= .agg Z.toArray) (w1:=w17) rfl (build_run0' rfl (HBZ.out w17)) ?_)
     | ((with_reducible refine gate_store (t:=33) (p:=2) rfl ?_);refine wpList_store_mid rfl 33 _ _ rfl g2 0 Z.toArray rfl rfl (by rw [List.size_toArray,HZl.out,← HZl.out];exact HD.out.res.there) (by rw [List.size_toArray,HZl.out];exact info_ext') (all_oneCell_toArray HZo.out) ?_))
    have BR:=World.rangeAt_setCells_same w17 g2 0 Z (by rw [HZl.out,← HZl.out];exact HD.out.res.there);have hres:=run_loadVar_mid (P:=Try.prog) (w17.setCells g2 0 Z) g2 0 33 Z _ BR Try.underlying33 rfl (by rw [HZl.out];exact info_ext');refine bodyPost_ret (results_cell_tmp rfl _ rfl hres) rfl ?_;refine ⟨⟨ext0 0 0,none,0,?_,rfl,Kd.C_nil _ _,Nat.le_refl _,?_⟩,below_setCells' g2 HD.out.lt2 Z 0 w17 HD.out.low⟩
    ·rw [HNO.out,show (ext0 0 0).cells none 0 = Z from HZ.out.symm];rfl
    ·rw [HNO.out];rfl
 have dp : decide ((p.length : Int) > 0) = true:=decide_eq_true (by omega);have dp2 : decide ((0 : Int) < (p.length : Int)) = true:=decide_eq_true (by omega);have dp3 : decide (0 < p.length) = true:=decide_eq_true (by omega)
 have hp1 : 0 < p.length:=by omega
 have HCR : Aside0 (callR p = readF 3 p):=⟨by unfold callR;rw [if_pos hp0]⟩;have hrd:=reads_at 3 0 (by decide) (by decide) Ap cp p w15 HCp.out Hcp.out HPB.out HPS.out;have HRD:=am hrd;clear hp0 hrd
 go_upto_region 23 with (first
  | (go_at_call 50;go_loud ((with_reducible refine HRD.out.mono ?_);rintro e w16 ⟨⟨L4,rfl,hl_,ho_,hm_⟩,hb_⟩;have HL4:=am hl_;have HL4o:=am ho_;have HM:=am hm_;have HB16:=am hb_;have HD16:=am (HD15.out.below hb_);clear hl_ ho_ hm_ hb_))
  | ((with_reducible refine gate_store (t:=25) (p:=82) rfl ?_);refine wpList_store_mid rfl 25 _ _ rfl g5 45 L4.toArray rfl rfl (by rw [List.size_toArray,HL4.out];exact HD16.out.ext.part_there 45 4 (by rw [HLl14.out];decide)) (by rw [List.size_toArray,HL4.out];exact info_call) (all_oneCell_toArray HL4o.out) ?_))
 have nx_:=HD16.out.splice 45 L4 (by rw [HL4.out,HLl14.out];decide);rw [List.drop_of_length_le (by rw [HL4.out,HLl14.out];decide),List.append_nil] at nx_;have hk_:=kept_setCells g5 45 L4 w16;have hlt5 : g5 < w15.heap.size:=HD15.out.ext.lt HD15.out.ll
 have hMa : k25.M (w16.setCells g5 45 L4) w15.heap.size (fun k=>w15.heap.size ≤ k) (readF 3 p) L4:=
  Kd.M_step (k25.M_mono (fun k h=>h.2.1) (k25.M_bound HM.out)) (fun k ho hl=>hk_.block k hl (by show ¬ k = g5;omega))
 generalize World.setCells _ _ _ _ = wz at nx_ hMa hk_ ⊢;obtain ⟨A3,n3,hL4e,hn3,hC3⟩:=k25_open (k25.K_of_M hMa);obtain ⟨LE,hLE⟩ : ∃ LE,LE = (readE l).cells A3 n3:=⟨_,rfl⟩
 have heq : L14.take 45 ++ L4 = LE:=by rw [HCELLS.out,hL4e,hLE,HRE.out,HCR.out];exact cells1_call H32.out.1 H32.out.2 _ A3 n3
 rw [heq] at nx_;have HDW:=am nx_;have HLE:=am hLE
 have ecall : (readE l).call = readF 3 p:=by rw [HRE.out,HCR.out];rfl
 have Hn3 : Aside0 ((readE l).call.f3.length ≤ n3):=⟨by rw [ecall];exact hn3⟩;have HCK : Aside0 (Kd.C k25 wz A3 (readE l).call.f3.length (readE l).call.f3):=⟨by rw [ecall];exact hC3⟩;have hg2 : g2 < w15.heap.size:=HD15.out.res.lt HD15.out.zl
 have HCKW : Aside0 (∀ W,Kept (fun k=>k = g2 ∨ k = g5) wz W → Kd.C k25 W A3 (readE l).call.f3.length (readE l).call.f3):=⟨fun W hk=>by
  have hM2:=Kd.M_step hMa (w1:=W) (fun k ho hl=>hk.block k hl (fun h=>by have ho' : w15.heap.size ≤ k:=ho;rcases h with h | h <;> omega));obtain ⟨A4,n4,e4,_,hC4⟩:=k25_open (k25.K_of_M hM2);rw [hL4e] at e4;have e5:=congrArg (fun L=>L[3]?) e4;have e6 : Value.slice A3 (readF 3 p).f3.length n3 = Value.slice A4 (readF 3 p).f3.length n4:=Option.some.inj e5
  injection e6 with e7 _ _
  rw [ecall,e7];exact hC4⟩
 clear nx_ hk_ hlt5 hMa hL4e hn3 hC3 hLE heq ecall hg2 dp dp2 dp3 hp1;obtain ⟨rr,hrr⟩ : ∃ rr,isExtP (readE l) = rr:=⟨_,rfl⟩;obtain ⟨be,hbe⟩ : ∃ be,bytesE (readE l) = be:=⟨_,rfl⟩;have HALL : Aside0 (Calls Try.prog 20 #[.agg LE.toArray] wz fun e w'=>∃ v0 : Value,e = .returned (.tuple #[v0,.int .i64 (errE rr)]) ∧ Kd.R (Kd.int .u8) 5 w' wz.heap.size (fun _=>True) v0 be ∧ Below wz.heap.size wz w'):=⟨by rw [HLE.out,← hrr,← hbe];exact refEncodeExt_calls (readE l) A3 n3 wz (readE_sum l) (HCK.out) Hn3.out⟩;have HRR:=am hrr;have HBE:=am hbe;have HLEl : Aside0 (LE.length = 49):=⟨by rw [HLE.out];exact Ext.cells_length _ _ _ (readE_sum l)⟩;have hdr:=decE_read Hby.out;rw [hrr] at hdr;have HDR:=am hdr;clear hrr hbe hdr
 cases rr with
 | false=>
   have HNO : Aside0 (decE l = none):=⟨by rw [HDR.out,if_neg (by simp)]⟩
   go_upto_region 25 with (first
    | ((with_reducible refine gate_dst (N:=84) rfl ?_);refine wpList_load_mid rfl 33 _ rfl g5 0 rfl LE _ HDW.out.ext.range Try.underlying33 rfl (by rw [HLEl.out];exact info_ext') ?_)
    | (go_at_call 20;go_loud ((with_reducible refine HALL.out.mono ?_);rintro e w17 ⟨v17,rfl,hr_,hb_⟩;rw [show errE false = 1 from rfl];have HD:=am (HDW.out.below hb_);clear hr_ hb_)))
   go_wp2_with (first
    | ((with_reducible refine gate_dst (N:=97) rfl ?_);refine Kd.event_run (v:= .agg Z.toArray) (w1:=w17) rfl (build_run0' rfl (HBZ.out w17)) ?_)
    | ((with_reducible refine gate_store (t:=33) (p:=2) rfl ?_);refine wpList_store_mid rfl 33 _ _ rfl g2 0 Z.toArray rfl rfl (by rw [List.size_toArray,HZl.out,← HZl.out];exact HD.out.res.there) (by rw [List.size_toArray,HZl.out];exact info_ext') (all_oneCell_toArray HZo.out) ?_))
   have BR:=World.rangeAt_setCells_same w17 g2 0 Z (by rw [HZl.out,← HZl.out];exact HD.out.res.there);have hres:=run_loadVar_mid (P:=Try.prog) (w17.setCells g2 0 Z) g2 0 33 Z _ BR Try.underlying33 rfl (by rw [HZl.out];exact info_ext');refine bodyPost_ret (results_cell_tmp rfl _ rfl hres) rfl ?_;refine ⟨⟨ext0 0 0,none,0,?_,rfl,Kd.C_nil _ _,Nat.le_refl _,?_⟩,below_setCells' g2 HD.out.lt2 Z 0 w17 HD.out.low⟩
   ·rw [HNO.out,show (ext0 0 0).cells none 0 = Z from HZ.out.symm];rfl
   ·rw [HNO.out];rfl
 | true=>
   have e1 : bytesE (readE l) = encE (readE l):=by unfold bytesE;rw [HRR.out,if_pos rfl]
   have E1:=am e1;clear e1
   by_cases heq : be = l
   ·have HYES : Aside0 (decE l = some (readE l)):=⟨by rw [HDR.out,if_pos ⟨rfl,by rw [← E1.out,HBE.out,heq]⟩]⟩;subst heq
    go_upto_region 26 with (first
     | ((with_reducible refine gate_dst (N:=84) rfl ?_);refine wpList_load_mid rfl 33 _ rfl g5 0 rfl LE _ HDW.out.ext.range Try.underlying33 rfl (by rw [HLEl.out];exact info_ext') ?_)
     | (go_at_call 20;go_loud ((with_reducible refine HALL.out.mono ?_);rintro e w17 ⟨v17,rfl,hr_,hb_⟩;rw [show errE true = 0 from rfl];obtain ⟨A17,c17,hv_,hc_,hC_⟩:=Kd.R_reads hr_;subst hv_;have HD:=am (HDW.out.below hb_);have HB17:=am hb_;have kc1:=Kd.C_string (P:=Try.prog) (A:=A17) (c:=c17) Try.underlying38 Try.underlying5 Try.underlying9 hC_;have kc2:=Kd.C_string (P:=Try.prog) (A:=A) (c:=c) Try.underlying38 Try.underlying5 Try.underlying9 (Kd.C_below HC.out (by rw [← HBe.out];exact (HDW.out.below hb_).low));clear hr_ hb_ hc_ hC_)))
    clear kc1 kc2
    go_wp2_with (first
     | ((with_reducible refine gate_dst (N:=98) rfl ?_);refine wpList_load_mid rfl 33 _ rfl g5 0 rfl LE _ HD.out.ext.range Try.underlying33 rfl (by rw [HLEl.out];exact info_ext') ?_)
     | ((with_reducible refine gate_store (t:=33) (p:=2) rfl ?_);refine wpList_store_mid rfl 33 _ _ rfl g2 0 LE.toArray rfl rfl (by rw [List.size_toArray,HLEl.out,← HZl.out];exact HD.out.res.there) (by rw [List.size_toArray,HLEl.out];exact info_ext') (all_oneCell_toArray (by rw [HLE.out];exact Ext.cells_one _ _ _)) ?_))
    have BR:=World.rangeAt_setCells_same w17 g2 0 LE (by rw [HLEl.out,← HZl.out];exact HD.out.res.there);have hres:=run_loadVar_mid (P:=Try.prog) (w17.setCells g2 0 LE) g2 0 33 LE _ BR Try.underlying33 rfl (by rw [HLEl.out];exact info_ext');refine bodyPost_ret (results_cell_tmp rfl _ rfl hres) rfl ?_;refine ⟨⟨readE _,A3,n3,?_,readE_sum _,?_,Hn3.out,?_⟩,below_setCells' g2 HD.out.lt2 LE 0 w17 HD.out.low⟩
    ·rw [HYES.out,← HLE.out];rfl
    ·exact HCKW.out _ (((Kept.of_below HB17.out).step (kept_setCells g2 0 LE w17)).mono (fun k h=> .inl h))
    ·rw [HYES.out];rfl
   have HNO : Aside0 (decE l = none):=⟨by rw [HDR.out,if_neg (fun h=>heq (by rw [← HBE.out,E1.out];exact h.2))]⟩;have hsn : ¬ (strOfNums be).toList = (strOfNums l).toList:=fun h=>heq ((strOf_inj (by rw [← HBE.out,E1.out];exact encE_bytes _) Hby.out).1 h);have sn1 : ((strOfNums be).toList == (strOfNums l).toList) = false:=beq_eq_false_iff_ne.mpr hsn;have sn2 : ((strOfNums be).toList != (strOfNums l).toList) = true:=bne_iff_ne.mpr hsn;clear hsn heq
   go_upto_region 25 with (first
    | ((with_reducible refine gate_dst (N:=84) rfl ?_);refine wpList_load_mid rfl 33 _ rfl g5 0 rfl LE _ HDW.out.ext.range Try.underlying33 rfl (by rw [HLEl.out];exact info_ext') ?_)
    | (go_at_call 20;go_loud ((with_reducible refine HALL.out.mono ?_);rintro e w17 ⟨v17,rfl,hr_,hb_⟩;rw [show errE true = 0 from rfl];obtain ⟨A17,c17,hv_,hc_,hC_⟩:=Kd.R_reads hr_;subst hv_;have HD:=am (HDW.out.below hb_);have kc1:=Kd.C_string (P:=Try.prog) (A:=A17) (c:=c17) Try.underlying38 Try.underlying5 Try.underlying9 hC_;have kc2:=Kd.C_string (P:=Try.prog) (A:=A) (c:=c) Try.underlying38 Try.underlying5 Try.underlying9 (Kd.C_below HC.out (by rw [← HBe.out];exact (HDW.out.below hb_).low));clear hr_ hb_ hc_ hC_)))
   go_wp2_with (first
    | ((with_reducible refine gate_dst (N:=97) rfl ?_);refine Kd.event_run (v:= .agg Z.toArray) (w1:=w17) rfl (build_run0' rfl (HBZ.out w17)) ?_)
    | ((with_reducible refine gate_store (t:=33) (p:=2) rfl ?_);refine wpList_store_mid rfl 33 _ _ rfl g2 0 Z.toArray rfl rfl (by rw [List.size_toArray,HZl.out,← HZl.out];exact HD.out.res.there) (by rw [List.size_toArray,HZl.out];exact info_ext') (all_oneCell_toArray HZo.out) ?_))
   have BR:=World.rangeAt_setCells_same w17 g2 0 Z (by rw [HZl.out,← HZl.out];exact HD.out.res.there);have hres:=run_loadVar_mid (P:=Try.prog) (w17.setCells g2 0 Z) g2 0 33 Z _ BR Try.underlying33 rfl (by rw [HZl.out];exact info_ext');refine bodyPost_ret (results_cell_tmp rfl _ rfl hres) rfl ?_;refine ⟨⟨ext0 0 0,none,0,?_,rfl,Kd.C_nil _ _,Nat.le_refl _,?_⟩,below_setCells' g2 HD.out.lt2 Z 0 w17 HD.out.low⟩
   ·rw [HNO.out,show (ext0 0 0).cells none 0 = Z from HZ.out.symm];rfl
   ·rw [HNO.out];rfl
end Go.Proofs.Ytilckocpgififaa.G
-- Laid by this session's own program gprint.py over the kit's print (given functions are proved by hand).
namespace Go.Proofs.Ytilckocpgififaa.G
open Go.RowKit Go.Proofs.YtilckocpgififaaW.PrintWords Go.Proofs.YtilckocpgififaaW.PrintLast Go.Proofs.YtilckocpgififaaW.PrintMore
attribute [local go_sem] max2_int min2_int max_two min_two max_three min_three max_four min_four   -- for this text's walks alone
set_option linter.unusedVariables false
set_option linter.unusedSimpArgs false
-- NOT PRINTED: function 49 (althingref1_Reader_Row)
-- NOT PRINTED: function 50 (althingref7_read)
-- NOT PRINTED: function 22 (althingref7_DecodeExt)
/-! ### althingref7_SameCall: function 26 -/
mutual
def althingref7_SameCall.j0 : Nat → Bool → Int → Int → Int → List (S25) → Int → Int → Int → List (S25) → Option (Bool)
 | 0,_,_,_,_,_,_,_,_,_=>none
 | k + 1,x33,x357000,x357001,x357002,x357003,x358000,x358001,x358002,x358003=>if x33 = true then (some false) else (althingref7_SameCall.l0 k 0 x357000 x357001 x357002 x357003 x358000 x358001 x358002 x358003)
def althingref7_SameCall.l0 : Nat → Int → Int → Int → Int → List (S25) → Int → Int → Int → List (S25) → Option (Bool)
 | 0,_,_,_,_,_,_,_,_,_=>none
 | k + 1,x5,x357000,x357001,x357002,x357003,x358000,x358001,x358002,x358003=>if x5 < (x357003.length : Int) then (if 0 ≤ x5 then (if x5 < (x358003.length : Int) then ((althingref7_SameCall.f k ((rd_T25 x357003 x5).f0) ((rd_T25 x357003 x5).f1) ((rd_T25 x357003 x5).f2) ((rd_T25 x357003 x5).f3) ((rd_T25 x358003 x5).f0) ((rd_T25 x358003 x5).f1) ((rd_T25 x358003 x5).f2) ((rd_T25 x358003 x5).f3)).bind fun t360=>(if t360 = true then (althingref7_SameCall.l0 k (wrap64 (x5 + 1)) x357000 x357001 x357002 x357003 x358000 x358001 x358002 x358003) else (some false))) else (none)) else (none)) else (some true)
def althingref7_SameCall.f : Nat → Int → Int → Int → List (S25) → Int → Int → Int → List (S25) → Option (Bool)
 | 0,_,_,_,_,_,_,_,_=>none
 | k + 1,a0_0,a0_1,a0_2,l0_3,a1_0,a1_1,a1_2,l1_3=>if a0_0 = a1_0 then (if a0_1 = a1_1 then (if a0_2 = a1_2 then (althingref7_SameCall.j0 k ((l0_3.length : Int) != (l1_3.length : Int)) a0_0 a0_1 a0_2 l0_3 a1_0 a1_1 a1_2 l1_3) else (althingref7_SameCall.j0 k true a0_0 a0_1 a0_2 l0_3 a1_0 a1_1 a1_2 l1_3)) else (althingref7_SameCall.j0 k true a0_0 a0_1 a0_2 l0_3 a1_0 a1_1 a1_2 l1_3)) else (althingref7_SameCall.j0 k true a0_0 a0_1 a0_2 l0_3 a1_0 a1_1 a1_2 l1_3)
end
def althingref7_SameCall.T6 : Bool × List (List Nat × List Nat):=(true,[([],[]),([0],[0]),([],[]),([1,2],[1,2]),([3],[3]),([],[]),([5],[5]),([],[]),([6,7],[6,7]),([8],[8]),([4,9],[4,9]),([10],[10])])
def althingref7_SameCall.B6 : List Nat:=[0,1,0,7,15,0,32,0,224,480,1023,2047]
theorem althingref7_SameCall.tab6 : rtab .any (opsOf Try.f26 6) = althingref7_SameCall.T6:=by kernel_rfl
theorem althingref7_SameCall.bits6 : waitsOk althingref7_SameCall.T6.2 althingref7_SameCall.B6 = true:=by kernel_rfl
set_option maxHeartbeats 8000000 in
set_option maxRecDepth 100000 in
theorem althingref7_SameCall.calls (k : Nat) : ∀ (a0_0 : Int) (a0_1 : Int) (a0_2 : Int) (A0_3 : Option Addr) (c0_3 : Nat) (l0_3 : List (S25)) (a1_0 : Int) (a1_1 : Int) (a1_2 : Int) (A1_3 : Option Addr) (c1_3 : Nat) (l1_3 : List (S25)) (r : Bool) (w : World) (hr0_3 : Kd.C k25 w A0_3 l0_3.length l0_3) (hc0_3 : l0_3.length ≤ c0_3) (hr1_3 : Kd.C k25 w A1_3 l1_3.length l1_3) (hc1_3 : l1_3.length ≤ c1_3) (h : althingref7_SameCall.f k a0_0 a0_1 a0_2 l0_3 a1_0 a1_1 a1_2 l1_3 = some r),
 Calls Try.prog 26 #[.agg #[.int .i64 a0_0,.int .i64 a0_1,.int .i64 a0_2,.slice A0_3 l0_3.length c0_3],.agg #[.int .i64 a1_0,.int .i64 a1_1,.int .i64 a1_2,.slice A1_3 l1_3.length c1_3]] w fun e w'=>e = .returned (.bool r) ∧ Below w.heap.size w w':=by
 induction k using Nat.strongRecOn with
 | _ k ih=>
 intro a0_0 a0_1 a0_2 A0_3 c0_3 l0_3 a1_0 a1_1 a1_2 A1_3 c1_3 l1_3 r w hr0_3 hc0_3 hr1_3 hc1_3 h
 cases k with
 | zero=>exact absurd h (by simp [althingref7_SameCall.f])
 | succ k=>
 simp only [althingref7_SameCall.f] at h;have hu25:=Try.underlying25;have HR0_3:=am hr0_3;have HC0_3:=am hc0_3;clear hr0_3 hc0_3;have HR1_3:=am hr1_3;have HC1_3:=am hc1_3;clear hr1_3 hc1_3;have HB:=am (Below.refl w.heap.size w);have H : (if a0_0 = a1_0 then (if a0_1 = a1_1 then (if a0_2 = a1_2 then (althingref7_SameCall.j0 k ((l0_3.length : Int) != (l1_3.length : Int)) a0_0 a0_1 a0_2 l0_3 a1_0 a1_1 a1_2 l1_3) else (althingref7_SameCall.j0 k true a0_0 a0_1 a0_2 l0_3 a1_0 a1_1 a1_2 l1_3)) else (althingref7_SameCall.j0 k true a0_0 a0_1 a0_2 l0_3 a1_0 a1_1 a1_2 l1_3)) else (althingref7_SameCall.j0 k true a0_0 a0_1 a0_2 l0_3 a1_0 a1_1 a1_2 l1_3)) = some r:=h;clear h;have HC3:=am H;clear H;go_enter Try.func26,Try.ntmps26
 go_upto_region 1 with (first | ((with_reducible refine gate_dst (N:=2) rfl ?_);(try (refine gate_guard (by rfl) ?_;dsimp only));refine box_event ?hg (N:=2) ?hd (cs:=#[.int .i64 a0_0,.int .i64 a0_1,.int .i64 a0_2,.slice A0_3 l0_3.length c0_3]) (t:=25) ?hr ?_;(case hd=>rfl);(case hg=>rfl);(case hr=>first | (go_simp;done) | (go_simp;rfl));intro gb356 hg w4 hbox hb;have n0_:=am (below_step (by exact bq HB.out) hb);have n1_:=am (hbox);have n2_:=am ((by rw [hg];exact (below_size (by exact bq HB.out)) : w.heap.size ≤ gb356));have n3_:=am ((by rw [hg];exact (below_size (by exact bq HB.out)) : w.heap.size ≤ gb356));clear HB;have HB:=n0_;have BK356:=n1_;have GW356:=n2_;have GE356:=n3_;clear n0_ n1_ n2_ n3_;clear hb hbox hg) | ((with_reducible refine gate_dst (N:=3) rfl ?_);(try (refine gate_guard (by rfl) ?_;dsimp only));refine box_event ?hg (N:=3) ?hd (cs:=#[.int .i64 a1_0,.int .i64 a1_1,.int .i64 a1_2,.slice A1_3 l1_3.length c1_3]) (t:=25) ?hr ?_;(case hd=>rfl);(case hg=>rfl);(case hr=>first | (go_simp;done) | (go_simp;rfl));intro gb357 hg w5 hbox hb;have n0_:=am (blk_below (g:=gb356) (o:= .cells #[.int .i64 a0_0,.int .i64 a0_1,.int .i64 a0_2,.slice A0_3 l0_3.length c0_3] 25 (0,0)) (by exact kq BK356.out) hb);have n1_:=am (below_step (by repeat (first | (with_reducible first | exact HB.out | apply ba | apply bn | apply bd | refine tb_ ?_ GE356.out) | exact HB.out)) hb);have n2_:=am (hbox);have n3_:=am ((by rw [hg];exact (below_size (by repeat (first | (with_reducible first | exact HB.out | apply ba | apply bn | apply bd | refine tb_ ?_ GE356.out) | exact HB.out))) : w.heap.size ≤ gb357));have n4_:=am ((by rw [hg];exact (below_size (by repeat (first | (with_reducible first | exact HB.out | apply ba | apply bn | apply bd | refine tb_ ?_ GE356.out) | exact HB.out))) : w.heap.size ≤ gb357));have n5_:=am ((by rw [hg];exact Nat.ne_of_lt (blk_lt (g:=gb356) (o:= .cells #[.int .i64 a0_0,.int .i64 a0_1,.int .i64 a0_2,.slice A0_3 l0_3.length c0_3] 25 (0,0)) (by exact kq BK356.out)) : gb356 ≠ gb357));have n6_:=am ((by rw [hg];exact Nat.ne_of_gt (blk_lt (g:=gb356) (o:= .cells #[.int .i64 a0_0,.int .i64 a0_1,.int .i64 a0_2,.slice A0_3 l0_3.length c0_3] 25 (0,0)) (by exact kq BK356.out)) : gb357 ≠ gb356));clear BK356;clear HB;have BK356:=n0_;have HB:=n1_;have BK357:=n2_;have GW357:=n3_;have GE357:=n4_;have NB356_357:=n5_;have NB357_356:=n6_;clear n0_ n1_ n2_ n3_ n4_ n5_ n6_;clear hb hbox hg))
 (try simp only [Act.put,List.setIfInBounds_toArray,List.set_cons_zero,List.set_cons_succ])
 go_cut [33] (fun v33 wc=>∃ (kq : Nat) (x33_2 : Bool),v33 = .bool x33_2 ∧ Aside0 (althingref7_SameCall.j0 kq x33_2 a0_0 a0_1 a0_2 l0_3 a1_0 a1_1 a1_2 l1_3 = some r) ∧ Aside0 (kq ≤ k) ∧ Aside0 (wc.heap[gb356]? = some (.cells #[.int .i64 a0_0,.int .i64 a0_1,.int .i64 a0_2,(.slice A0_3 l0_3.length c0_3)] 25 (0,0))) ∧ Aside0 (wc.heap[gb357]? = some (.cells #[.int .i64 a1_0,.int .i64 a1_1,.int .i64 a1_2,(.slice A1_3 l1_3.length c1_3)] 25 (0,0))) ∧ Aside0 (Below w.heap.size w wc))
 case first=>
  have H:=HC3.out;clear HC3
  by_cases c6 : a0_0 = a1_0
  rotate_left
  ·rw [if_neg c6] at H;have c6b0 : (a0_0 == a1_0) = false:=beq_eq_false_iff_ne.mpr c6;have c6b1 : (a0_0 != a1_0) = true:=bne_iff_ne.mpr c6
   (first | rw [c6b0] | (simp only [i64_w,i32_w];rw [c6b0]) | skip)
   have H':=am H;clear H;have hnb18:=NB356_357.out;have hnc18:=NB357_356.out;have hcz19_0 : w5.cell? ⟨gb356,0,none⟩ = some (.int .i64 a0_0):=(blk_cell BK356.out 0).trans rfl;have hcz19_1 : w5.cell? ⟨gb356,1,none⟩ = some (.int .i64 a0_1):=(blk_cell BK356.out 1).trans rfl;have hcz19_2 : w5.cell? ⟨gb356,2,none⟩ = some (.int .i64 a0_2):=(blk_cell BK356.out 2).trans rfl;have hcz19_3 : w5.cell? ⟨gb356,3,none⟩ = some (.slice A0_3 l0_3.length c0_3):=(blk_cell BK356.out 3).trans rfl;have hfz19_0:=blk_frozen BK356.out 0;have hfz19_1:=blk_frozen BK356.out 1;have hfz19_2:=blk_frozen BK356.out 2;have hfz19_3:=blk_frozen BK356.out 3;have hcz20_0 : w5.cell? ⟨gb357,0,none⟩ = some (.int .i64 a1_0):=(blk_cell BK357.out 0).trans rfl;have hcz20_1 : w5.cell? ⟨gb357,1,none⟩ = some (.int .i64 a1_1):=(blk_cell BK357.out 1).trans rfl;have hcz20_2 : w5.cell? ⟨gb357,2,none⟩ = some (.int .i64 a1_2):=(blk_cell BK357.out 2).trans rfl;have hcz20_3 : w5.cell? ⟨gb357,3,none⟩ = some (.slice A1_3 l1_3.length c1_3):=(blk_cell BK357.out 3).trans rfl;have hfz20_0:=blk_frozen BK357.out 0;have hfz20_1:=blk_frozen BK357.out 1;have hfz20_2:=blk_frozen BK357.out 2;have hfz20_3:=blk_frozen BK357.out 3
   go_wp2
   go_meet
   case rel=>exact ⟨_,(true),(by first | rfl | (simp;done) | (simp [*];done)),H',⟨by first | omega | exact Nat.le_refl _⟩,⟨by exact kq BK356.out⟩,⟨by exact kq BK357.out⟩,⟨by repeat (first | (with_reducible first | exact HB.out | apply ba | apply bn | apply bd | refine tb_ ?_ GE356.out | refine tb_ ?_ GE357.out) | exact HB.out)⟩⟩
  rw [if_pos c6] at H;have c6b0 : (a0_0 == a1_0) = true:=beq_iff_eq.mpr c6;have c6b1 : (a0_0 != a1_0) = false:=bne_eq_false_iff_eq.mpr c6;clear c6
  (first | rw [c6b0] | (simp only [i64_w,i32_w];rw [c6b0]) | skip)
  by_cases c7 : a0_1 = a1_1
  rotate_left
  ·rw [if_neg c7] at H;have c7b0 : (a0_1 == a1_1) = false:=beq_eq_false_iff_ne.mpr c7;have c7b1 : (a0_1 != a1_1) = true:=bne_iff_ne.mpr c7;have H':=am H;clear H;have hnb15:=NB356_357.out;have hnc15:=NB357_356.out;have hcz16_0 : w5.cell? ⟨gb356,0,none⟩ = some (.int .i64 a0_0):=(blk_cell BK356.out 0).trans rfl;have hcz16_1 : w5.cell? ⟨gb356,1,none⟩ = some (.int .i64 a0_1):=(blk_cell BK356.out 1).trans rfl;have hcz16_2 : w5.cell? ⟨gb356,2,none⟩ = some (.int .i64 a0_2):=(blk_cell BK356.out 2).trans rfl;have hcz16_3 : w5.cell? ⟨gb356,3,none⟩ = some (.slice A0_3 l0_3.length c0_3):=(blk_cell BK356.out 3).trans rfl;have hfz16_0:=blk_frozen BK356.out 0;have hfz16_1:=blk_frozen BK356.out 1;have hfz16_2:=blk_frozen BK356.out 2;have hfz16_3:=blk_frozen BK356.out 3;have hcz17_0 : w5.cell? ⟨gb357,0,none⟩ = some (.int .i64 a1_0):=(blk_cell BK357.out 0).trans rfl;have hcz17_1 : w5.cell? ⟨gb357,1,none⟩ = some (.int .i64 a1_1):=(blk_cell BK357.out 1).trans rfl;have hcz17_2 : w5.cell? ⟨gb357,2,none⟩ = some (.int .i64 a1_2):=(blk_cell BK357.out 2).trans rfl;have hcz17_3 : w5.cell? ⟨gb357,3,none⟩ = some (.slice A1_3 l1_3.length c1_3):=(blk_cell BK357.out 3).trans rfl;have hfz17_0:=blk_frozen BK357.out 0;have hfz17_1:=blk_frozen BK357.out 1;have hfz17_2:=blk_frozen BK357.out 2;have hfz17_3:=blk_frozen BK357.out 3
   go_wp2
   go_meet
   case rel=>exact ⟨_,(true),(by first | rfl | (simp;done) | (simp [*];done)),H',⟨by first | omega | exact Nat.le_refl _⟩,⟨by exact kq BK356.out⟩,⟨by exact kq BK357.out⟩,⟨by repeat (first | (with_reducible first | exact HB.out | apply ba | apply bn | apply bd | refine tb_ ?_ GE356.out | refine tb_ ?_ GE357.out) | exact HB.out)⟩⟩
  rw [if_pos c7] at H;have c7b0 : (a0_1 == a1_1) = true:=beq_iff_eq.mpr c7;have c7b1 : (a0_1 != a1_1) = false:=bne_eq_false_iff_eq.mpr c7;clear c7
  by_cases c8 : a0_2 = a1_2
  rotate_left
  ·rw [if_neg c8] at H;have c8b0 : (a0_2 == a1_2) = false:=beq_eq_false_iff_ne.mpr c8;have c8b1 : (a0_2 != a1_2) = true:=bne_iff_ne.mpr c8;have H':=am H;clear H;have hnb12:=NB356_357.out;have hnc12:=NB357_356.out;have hcz13_0 : w5.cell? ⟨gb356,0,none⟩ = some (.int .i64 a0_0):=(blk_cell BK356.out 0).trans rfl;have hcz13_1 : w5.cell? ⟨gb356,1,none⟩ = some (.int .i64 a0_1):=(blk_cell BK356.out 1).trans rfl;have hcz13_2 : w5.cell? ⟨gb356,2,none⟩ = some (.int .i64 a0_2):=(blk_cell BK356.out 2).trans rfl;have hcz13_3 : w5.cell? ⟨gb356,3,none⟩ = some (.slice A0_3 l0_3.length c0_3):=(blk_cell BK356.out 3).trans rfl;have hfz13_0:=blk_frozen BK356.out 0;have hfz13_1:=blk_frozen BK356.out 1;have hfz13_2:=blk_frozen BK356.out 2;have hfz13_3:=blk_frozen BK356.out 3;have hcz14_0 : w5.cell? ⟨gb357,0,none⟩ = some (.int .i64 a1_0):=(blk_cell BK357.out 0).trans rfl;have hcz14_1 : w5.cell? ⟨gb357,1,none⟩ = some (.int .i64 a1_1):=(blk_cell BK357.out 1).trans rfl;have hcz14_2 : w5.cell? ⟨gb357,2,none⟩ = some (.int .i64 a1_2):=(blk_cell BK357.out 2).trans rfl;have hcz14_3 : w5.cell? ⟨gb357,3,none⟩ = some (.slice A1_3 l1_3.length c1_3):=(blk_cell BK357.out 3).trans rfl;have hfz14_0:=blk_frozen BK357.out 0;have hfz14_1:=blk_frozen BK357.out 1;have hfz14_2:=blk_frozen BK357.out 2;have hfz14_3:=blk_frozen BK357.out 3
   go_wp2
   go_meet
   case rel=>exact ⟨_,(true),(by first | rfl | (simp;done) | (simp [*];done)),H',⟨by first | omega | exact Nat.le_refl _⟩,⟨by exact kq BK356.out⟩,⟨by exact kq BK357.out⟩,⟨by repeat (first | (with_reducible first | exact HB.out | apply ba | apply bn | apply bd | refine tb_ ?_ GE356.out | refine tb_ ?_ GE357.out) | exact HB.out)⟩⟩
  rw [if_pos c8] at H;have c8b0 : (a0_2 == a1_2) = true:=beq_iff_eq.mpr c8;have c8b1 : (a0_2 != a1_2) = false:=bne_eq_false_iff_eq.mpr c8;clear c8;have H':=am H;clear H;have hnb9:=NB356_357.out;have hnc9:=NB357_356.out;have hcz10_0 : w5.cell? ⟨gb356,0,none⟩ = some (.int .i64 a0_0):=(blk_cell BK356.out 0).trans rfl;have hcz10_1 : w5.cell? ⟨gb356,1,none⟩ = some (.int .i64 a0_1):=(blk_cell BK356.out 1).trans rfl;have hcz10_2 : w5.cell? ⟨gb356,2,none⟩ = some (.int .i64 a0_2):=(blk_cell BK356.out 2).trans rfl;have hcz10_3 : w5.cell? ⟨gb356,3,none⟩ = some (.slice A0_3 l0_3.length c0_3):=(blk_cell BK356.out 3).trans rfl;have hfz10_0:=blk_frozen BK356.out 0;have hfz10_1:=blk_frozen BK356.out 1;have hfz10_2:=blk_frozen BK356.out 2;have hfz10_3:=blk_frozen BK356.out 3;have hcz11_0 : w5.cell? ⟨gb357,0,none⟩ = some (.int .i64 a1_0):=(blk_cell BK357.out 0).trans rfl;have hcz11_1 : w5.cell? ⟨gb357,1,none⟩ = some (.int .i64 a1_1):=(blk_cell BK357.out 1).trans rfl;have hcz11_2 : w5.cell? ⟨gb357,2,none⟩ = some (.int .i64 a1_2):=(blk_cell BK357.out 2).trans rfl;have hcz11_3 : w5.cell? ⟨gb357,3,none⟩ = some (.slice A1_3 l1_3.length c1_3):=(blk_cell BK357.out 3).trans rfl;have hfz11_0:=blk_frozen BK357.out 0;have hfz11_1:=blk_frozen BK357.out 1;have hfz11_2:=blk_frozen BK357.out 2;have hfz11_3:=blk_frozen BK357.out 3
  go_wp2
  go_meet
  case rel=>exact ⟨_,(((l0_3.length : Int) != (l1_3.length : Int))),(by first | rfl | (simp;done) | (simp [*];done)),H',⟨by first | omega | exact Nat.le_refl _⟩,⟨by exact kq BK356.out⟩,⟨by exact kq BK357.out⟩,⟨by repeat (first | (with_reducible first | exact HB.out | apply ba | apply bn | apply bd | refine tb_ ?_ GE356.out | refine tb_ ?_ GE357.out) | exact HB.out)⟩⟩
 case rest=>
  clear HC3
  try clear c1
  try clear c2
  try clear p2
  try clear c6
  try clear c6b0
  try clear c6b1
  try clear c7
  try clear c7b0
  try clear c7b1
  try clear c8
  try clear c8b0
  try clear c8b1
  try clear c9
  try clear c12
  try clear c15
  try clear c18
  try clear hcz10_0
  try clear hcz10_1
  try clear hcz10_2
  try clear hcz10_3
  try clear hcz11_0
  try clear hcz11_1
  try clear hcz11_2
  try clear hcz11_3
  try clear hcz13_0
  try clear hcz13_1
  try clear hcz13_2
  try clear hcz13_3
  try clear hcz14_0
  try clear hcz14_1
  try clear hcz14_2
  try clear hcz14_3
  try clear hcz16_0
  try clear hcz16_1
  try clear hcz16_2
  try clear hcz16_3
  try clear hcz17_0
  try clear hcz17_1
  try clear hcz17_2
  try clear hcz17_3
  try clear hcz19_0
  try clear hcz19_1
  try clear hcz19_2
  try clear hcz19_3
  try clear hcz20_0
  try clear hcz20_1
  try clear hcz20_2
  try clear hcz20_3
  try clear hfz10_0
  try clear hfz10_1
  try clear hfz10_2
  try clear hfz10_3
  try clear hfz11_0
  try clear hfz11_1
  try clear hfz11_2
  try clear hfz11_3
  try clear hfz13_0
  try clear hfz13_1
  try clear hfz13_2
  try clear hfz13_3
  try clear hfz14_0
  try clear hfz14_1
  try clear hfz14_2
  try clear hfz14_3
  try clear hfz16_0
  try clear hfz16_1
  try clear hfz16_2
  try clear hfz16_3
  try clear hfz17_0
  try clear hfz17_1
  try clear hfz17_2
  try clear hfz17_3
  try clear hfz19_0
  try clear hfz19_1
  try clear hfz19_2
  try clear hfz19_3
  try clear hfz20_0
  try clear hfz20_1
  try clear hfz20_2
  try clear hfz20_3
  obtain ⟨kq,x33_2,rfl,HA,HJ2,BK356,BK357,HB⟩:=hcut
  cases kq with
  | zero=>exact absurd HA.out (by simp [althingref7_SameCall.j0])
  | succ kj2=>
    have H:=HA.out;clear HA;simp only [althingref7_SameCall.j0] at H
    by_cases c21 : x33_2 = true
    ·subst c21
     have H1 : (some false) = some r:=by rw [if_pos rfl] at H;exact H
     clear H;have H:=H1;clear H1;obtain rfl:=Option.some.inj H
     go_wp2
     go_ret
     exact ⟨by first | rfl | (simp [errW_none,errW_some] <;> rfl) | (simp [*,errW_none,errW_some] <;> rfl),by repeat (first | (with_reducible first | exact HB.out | apply ba | apply bn | apply bd | refine tb_ ?_ GE356.out | refine tb_ ?_ GE357.out) | exact HB.out)⟩
    replace c21:=Bool.eq_false_iff.mpr c21;subst c21
    have H1 : (althingref7_SameCall.l0 kj2 0 a0_0 a0_1 a0_2 l0_3 a1_0 a1_1 a1_2 l1_3) = some r:=by rw [if_neg (show ¬ (false = true) by decide)] at H;exact H
    clear H;have H:=H1;clear H1;have H':=am H;clear H
    go_wp2
    go_loopg [5] kj2 (fun kq v5 w'=>∃ (x5_2 : Int),v5 = .int .i64 x5_2 ∧ Aside0 (althingref7_SameCall.l0 kq x5_2 a0_0 a0_1 a0_2 l0_3 a1_0 a1_1 a1_2 l1_3 = some r) ∧ Aside0 (kq ≤ kj2) ∧ Aside0 (w'.heap[gb356]? = some (.cells #[.int .i64 a0_0,.int .i64 a0_1,.int .i64 a0_2,(.slice A0_3 l0_3.length c0_3)] 25 (0,0))) ∧ Aside0 (w'.heap[gb357]? = some (.cells #[.int .i64 a1_0,.int .i64 a1_1,.int .i64 a1_2,(.slice A1_3 l1_3.length c1_3)] 25 (0,0))) ∧ Aside0 (Below w.heap.size w w'))
    case atStart=>exact ⟨(0),(by first | rfl | (simp;done) | (simp [*];done)),H',⟨Nat.le_refl _⟩,⟨by exact kq BK356.out⟩,⟨by exact kq BK357.out⟩,⟨by repeat (first | (with_reducible first | exact HB.out | apply ba | apply bn | apply bd | refine tb_ ?_ GE356.out | refine tb_ ?_ GE357.out) | exact HB.out)⟩⟩
    case round=>
     clear H'
     try clear c1
     try clear c2
     try clear p2
     try clear c6
     try clear c6b0
     try clear c6b1
     try clear c7
     try clear c7b0
     try clear c7b1
     try clear c8
     try clear c8b0
     try clear c8b1
     try clear c9
     try clear c12
     try clear c15
     try clear c18
     try clear c21
     try clear hcz10_0
     try clear hcz10_1
     try clear hcz10_2
     try clear hcz10_3
     try clear hcz11_0
     try clear hcz11_1
     try clear hcz11_2
     try clear hcz11_3
     try clear hcz13_0
     try clear hcz13_1
     try clear hcz13_2
     try clear hcz13_3
     try clear hcz14_0
     try clear hcz14_1
     try clear hcz14_2
     try clear hcz14_3
     try clear hcz16_0
     try clear hcz16_1
     try clear hcz16_2
     try clear hcz16_3
     try clear hcz17_0
     try clear hcz17_1
     try clear hcz17_2
     try clear hcz17_3
     try clear hcz19_0
     try clear hcz19_1
     try clear hcz19_2
     try clear hcz19_3
     try clear hcz20_0
     try clear hcz20_1
     try clear hcz20_2
     try clear hcz20_3
     try clear hfz10_0
     try clear hfz10_1
     try clear hfz10_2
     try clear hfz10_3
     try clear hfz11_0
     try clear hfz11_1
     try clear hfz11_2
     try clear hfz11_3
     try clear hfz13_0
     try clear hfz13_1
     try clear hfz13_2
     try clear hfz13_3
     try clear hfz14_0
     try clear hfz14_1
     try clear hfz14_2
     try clear hfz14_3
     try clear hfz16_0
     try clear hfz16_1
     try clear hfz16_2
     try clear hfz16_3
     try clear hfz17_0
     try clear hfz17_1
     try clear hfz17_2
     try clear hfz17_3
     try clear hfz19_0
     try clear hfz19_1
     try clear hfz19_2
     try clear hfz19_3
     try clear hfz20_0
     try clear hfz20_1
     try clear hfz20_2
     try clear hfz20_3
     try clear p2
     obtain ⟨x5_2,rfl,HA,HK2,BK356,BK357,HB⟩:=hrel
     cases gk with
     | zero=>exact absurd HA.out (by simp [althingref7_SameCall.l0])
     | succ k2=>
       have H:=HA.out;clear HA;simp only [althingref7_SameCall.l0] at H
       by_cases c22 : x5_2 < (l0_3.length : Int)
       rotate_left
       ·rw [if_neg c22] at H;have c22b0 : decide (x5_2 < (l0_3.length : Int)) = false:=decide_eq_false c22;clear c22;obtain rfl:=Option.some.inj H;have hnb35:=NB356_357.out;have hnc35:=NB357_356.out;have hcz36_0 : wr.cell? ⟨gb356,0,none⟩ = some (.int .i64 a0_0):=(blk_cell BK356.out 0).trans rfl;have hcz36_1 : wr.cell? ⟨gb356,1,none⟩ = some (.int .i64 a0_1):=(blk_cell BK356.out 1).trans rfl;have hcz36_2 : wr.cell? ⟨gb356,2,none⟩ = some (.int .i64 a0_2):=(blk_cell BK356.out 2).trans rfl;have hcz36_3 : wr.cell? ⟨gb356,3,none⟩ = some (.slice A0_3 l0_3.length c0_3):=(blk_cell BK356.out 3).trans rfl;have hfz36_0:=blk_frozen BK356.out 0;have hfz36_1:=blk_frozen BK356.out 1;have hfz36_2:=blk_frozen BK356.out 2;have hfz36_3:=blk_frozen BK356.out 3
        go_wp2
        go_ret
        exact ⟨by first | rfl | (simp [errW_none,errW_some] <;> rfl) | (simp [*,errW_none,errW_some] <;> rfl),by repeat (first | (with_reducible first | exact HB.out | apply ba | apply bn | apply bd | refine tb_ ?_ GE356.out | refine tb_ ?_ GE357.out) | exact HB.out)⟩
       rw [if_pos c22] at H;have c22b0 : decide (x5_2 < (l0_3.length : Int)) = true:=decide_eq_true c22;clear c22
       by_cases c23 : 0 ≤ x5_2
       rotate_left
       ·rw [if_neg c23] at H;exact absurd H (by simp)
       rw [if_pos c23] at H;have c23b0 : decide (0 ≤ x5_2) = true:=decide_eq_true c23;clear c23
       by_cases c24 : x5_2 < (l1_3.length : Int)
       rotate_left
       ·rw [if_neg c24] at H;exact absurd H (by simp)
       rw [if_pos c24] at H;have c24b0 : decide (x5_2 < (l1_3.length : Int)) = true:=decide_eq_true c24;clear c24;replace H:=Option.bind_eq_some_iff.mp H;obtain ⟨t360,A250,H⟩:=H;replace H : (if t360 = true then (althingref7_SameCall.l0 k2 (wrap64 (x5_2 + 1)) a0_0 a0_1 a0_2 l0_3 a1_0 a1_1 a1_2 l1_3) else (some false)) = some r:=H;have A25:=am A250;clear A250
       by_cases c26 : t360 = true
       rotate_left
       ·replace c26:=Bool.eq_false_iff.mpr c26;subst c26
        have H1 : (some false) = some r:=by rw [if_neg (show ¬ (false = true) by decide)] at H;exact H
        clear H;have H:=H1;clear H1;obtain rfl:=Option.some.inj H;have hnb31:=NB356_357.out;have hnc31:=NB357_356.out;have hcz32_0 : wr.cell? ⟨gb356,0,none⟩ = some (.int .i64 a0_0):=(blk_cell BK356.out 0).trans rfl;have hcz32_1 : wr.cell? ⟨gb356,1,none⟩ = some (.int .i64 a0_1):=(blk_cell BK356.out 1).trans rfl;have hcz32_2 : wr.cell? ⟨gb356,2,none⟩ = some (.int .i64 a0_2):=(blk_cell BK356.out 2).trans rfl;have hcz32_3 : wr.cell? ⟨gb356,3,none⟩ = some (.slice A0_3 l0_3.length c0_3):=(blk_cell BK356.out 3).trans rfl;have hfz32_0:=blk_frozen BK356.out 0;have hfz32_1:=blk_frozen BK356.out 1;have hfz32_2:=blk_frozen BK356.out 2;have hfz32_3:=blk_frozen BK356.out 3
        try go_wp2
        have n0_:=am (blk_drew BK356.out);have n1_:=am (blk_drew BK357.out);have n2_:=am (below_drew1 HB.out);clear BK356;clear BK357;clear HB;have BK356:=n0_;have BK357:=n1_;have HB:=n2_;clear n0_ n1_ n2_;have p358 : 0 ≤ (x5_2 : Int):=of_decide_eq_true (by first | (with_reducible assumption) | assumption);have q358 : x5_2 < (l0_3.length : Int):=of_decide_eq_true (by first | (with_reducible assumption) | assumption);obtain ⟨ad358,A358_3,c358_3,e358,hx358_0,hx358_1,hx358_2,hx358_3,hl358_3,hi358_3⟩:=at_T25 HR0_3.out x5_2 p358 q358;have hw358_3:=hx358_3;have hw358_2:=hx358_2;have hw358_1:=hx358_1;have hw358_0:=hx358_0;cases e358;replace hx358_0:=(HB.out.cell (World.block_lt_of_cell? w _ hx358_0)).trans hx358_0;replace hx358_1:=(HB.out.cell (World.block_lt_of_cell? w _ hx358_1)).trans hx358_1;replace hx358_2:=(HB.out.cell (World.block_lt_of_cell? w _ hx358_2)).trans hx358_2;replace hx358_3:=(HB.out.cell (World.block_lt_of_cell? w _ hx358_3)).trans hx358_3;have HR358_3:=am hi358_3;have HC358_3:=am hl358_3;clear hi358_3 hl358_3;replace p358:=eq_true p358;replace q358:=eq_true q358;have p359 : 0 ≤ (x5_2 : Int):=of_decide_eq_true (by first | (with_reducible assumption) | assumption);have q359 : x5_2 < (l1_3.length : Int):=of_decide_eq_true (by first | (with_reducible assumption) | assumption);obtain ⟨ad359,A359_3,c359_3,e359,hx359_0,hx359_1,hx359_2,hx359_3,hl359_3,hi359_3⟩:=at_T25 HR1_3.out x5_2 p359 q359;have hw359_3:=hx359_3;have hw359_2:=hx359_2;have hw359_1:=hx359_1;have hw359_0:=hx359_0;cases e359;replace hx359_0:=(HB.out.cell (World.block_lt_of_cell? w _ hx359_0)).trans hx359_0;replace hx359_1:=(HB.out.cell (World.block_lt_of_cell? w _ hx359_1)).trans hx359_1;replace hx359_2:=(HB.out.cell (World.block_lt_of_cell? w _ hx359_2)).trans hx359_2;replace hx359_3:=(HB.out.cell (World.block_lt_of_cell? w _ hx359_3)).trans hx359_3;have HR359_3:=am hi359_3;have HC359_3:=am hl359_3;clear hi359_3 hl359_3;replace p359:=eq_true p359;replace q359:=eq_true q359;refine start_ (n:=12) (S:=fun w'=>w'.cell? ⟨gb356,0,none⟩ = some (.int .i64 a0_0) ∧ w'.cell? ⟨gb356,1,none⟩ = some (.int .i64 a0_1) ∧ w'.cell? ⟨gb356,2,none⟩ = some (.int .i64 a0_2) ∧ w'.cell? ⟨gb356,3,none⟩ = some (.slice (some ad358) l0_3.length c0_3) ∧ w'.cell? ⟨gb357,0,none⟩ = some (.int .i64 a1_0) ∧ w'.cell? ⟨gb357,1,none⟩ = some (.int .i64 a1_1) ∧ w'.cell? ⟨gb357,2,none⟩ = some (.int .i64 a1_2) ∧ w'.cell? ⟨gb357,3,none⟩ = some (.slice (some ad359) l1_3.length c1_3) ∧ w'.cell? (ad358.add ((x5_2).toNat * 4)) = some (.int .i64 ((rd_T25 l0_3 x5_2).f0)) ∧ w'.cell? ⟨(ad358.add ((x5_2).toNat * 4)).block,(ad358.add ((x5_2).toNat * 4)).off + 1,none⟩ = some (.int .i64 ((rd_T25 l0_3 x5_2).f1)) ∧ w'.cell? ⟨(ad358.add ((x5_2).toNat * 4)).block,(ad358.add ((x5_2).toNat * 4)).off + 2,none⟩ = some (.int .i64 ((rd_T25 l0_3 x5_2).f2)) ∧ w'.cell? ⟨(ad358.add ((x5_2).toNat * 4)).block,(ad358.add ((x5_2).toNat * 4)).off + 3,none⟩ = some (.slice A358_3 ((rd_T25 l0_3 x5_2).f3).length c358_3) ∧ w'.cell? (ad359.add ((x5_2).toNat * 4)) = some (.int .i64 ((rd_T25 l1_3 x5_2).f0)) ∧ w'.cell? ⟨(ad359.add ((x5_2).toNat * 4)).block,(ad359.add ((x5_2).toNat * 4)).off + 1,none⟩ = some (.int .i64 ((rd_T25 l1_3 x5_2).f1)) ∧ w'.cell? ⟨(ad359.add ((x5_2).toNat * 4)).block,(ad359.add ((x5_2).toNat * 4)).off + 2,none⟩ = some (.int .i64 ((rd_T25 l1_3 x5_2).f2)) ∧ w'.cell? ⟨(ad359.add ((x5_2).toNat * 4)).block,(ad359.add ((x5_2).toNat * 4)).off + 3,none⟩ = some (.slice A359_3 ((rd_T25 l1_3 x5_2).f3).length c359_3)) (ds:=[]) (bl 12 0) (by kernel_rfl) rfl rfl ⟨(blk_cell BK356.out 0).trans rfl,(blk_cell BK356.out 1).trans rfl,(blk_cell BK356.out 2).trans rfl,(blk_cell BK356.out 3).trans rfl,(blk_cell BK357.out 0).trans rfl,(blk_cell BK357.out 1).trans rfl,(blk_cell BK357.out 2).trans rfl,(blk_cell BK357.out 3).trans rfl,((HB.out.cell (World.block_lt_of_cell? w _ hw358_0)).trans hw358_0),((HB.out.cell (World.block_lt_of_cell? w _ hw358_1)).trans hw358_1),((HB.out.cell (World.block_lt_of_cell? w _ hw358_2)).trans hw358_2),((HB.out.cell (World.block_lt_of_cell? w _ hw358_3)).trans hw358_3),((HB.out.cell (World.block_lt_of_cell? w _ hw359_0)).trans hw359_0),((HB.out.cell (World.block_lt_of_cell? w _ hw359_1)).trans hw359_1),((HB.out.cell (World.block_lt_of_cell? w _ hw359_2)).trans hw359_2),((HB.out.cell (World.block_lt_of_cell? w _ hw359_3)).trans hw359_3)⟩ (fun hHeld=>?_);refine with_tabW althingref7_SameCall.tab6 althingref7_SameCall.bits6 (fun HT_ HW_=>?_)
        generalize wr.drew = w33 at BK356 BK357 HB HR358_3 HR359_3 hx358_0 hx358_1 hx358_2 hx358_3 hx359_0 hx359_1 hx359_2 hx359_3 hHeld ⊢;refine p_ HT_ 0 (some 41) (bl 12 1) ?_;refine p_ HT_ 2 (some 43) (bl 12 5) ?_;refine p_ HT_ 5 (some 46) (bl 12 37) ?_;refine p_ HT_ 7 (some 48) (bl 12 165) ?_;refine take_ (i:=1) (N:=some 42) (v:=?_) (a':=?_) #[true,true,true,false,false,true,false,true,false,false,false,false] rfl rfl (take_ofW HT_.out HW_.out (by kernel_rfl)) (fun _ _ _ h=>h) (Or.inl ⟨by rfl,?_⟩) hHeld ?_ ?_;rotate_left
        ·rintro w' ⟨s0,s1,s2,s3,s4,s5,s6,s7,s8,s9,s10,s11,s12,s13,s14,s15⟩;go_simp
         with_reducible rfl
        rotate_left
        ·simp only [Act.put,List.setIfInBounds_toArray,List.set_cons_zero,List.set_cons_succ,i64_w,i32_w]
         rfl
        refine p_ HT_ 3 (some 44) (bl 12 175) ?_;refine take_ (i:=4) (N:=some 45) (v:=?_) (a':=?_) #[true,true,true,true,true,true,false,true,false,false,false,false] rfl rfl (take_ofW HT_.out HW_.out (by kernel_rfl)) (fun _ _ _ h=>h) (Or.inl ⟨by rfl,?_⟩) hHeld ?_ ?_;rotate_left
        ·rintro w' ⟨s0,s1,s2,s3,s4,s5,s6,s7,s8,s9,s10,s11,s12,s13,s14,s15⟩;go_simp
         with_reducible rfl
        rotate_left
        ·simp only [Act.put,List.setIfInBounds_toArray,List.set_cons_zero,List.set_cons_succ,i64_w,i32_w]
         rfl
        refine take_ (i:=6) (N:=some 47) (v:=?_) (a':=?_) #[true,true,true,true,true,true,true,true,false,false,false,false] rfl rfl (take_ofW HT_.out HW_.out (by kernel_rfl)) (fun _ _ _ h=>h) (Or.inl ⟨by rfl,?_⟩) hHeld ?_ ?_;rotate_left
        ·rintro w' ⟨s0,s1,s2,s3,s4,s5,s6,s7,s8,s9,s10,s11,s12,s13,s14,s15⟩;go_simp
         with_reducible rfl
        rotate_left
        ·simp only [Act.put,List.setIfInBounds_toArray,List.set_cons_zero,List.set_cons_succ,i64_w,i32_w]
         rfl
        refine p_ HT_ 8 (some 49) (bl 12 511) ?_;refine take_ (i:=9) (N:=some 50) (v:=?_) (a':=?_) #[true,true,true,true,true,true,true,true,true,true,false,false] rfl rfl (take_ofW HT_.out HW_.out (by kernel_rfl)) (fun _ _ _ h=>h) (Or.inl ⟨by rfl,?_⟩) hHeld ?_ ?_;rotate_left
        ·rintro w' ⟨s0,s1,s2,s3,s4,s5,s6,s7,s8,s9,s10,s11,s12,s13,s14,s15⟩;go_simp
         with_reducible rfl
        rotate_left
        ·simp only [Act.put,List.setIfInBounds_toArray,List.set_cons_zero,List.set_cons_succ,i64_w,i32_w]
         rfl
        refine o_ HT_ 10 (some 51) (bl 12 2047) fun K hK=>?_;refine goes_ Try.func26 (by kernel_rfl) rfl #[.agg #[.int .i64 ((rd_T25 l0_3 x5_2).f0),.int .i64 ((rd_T25 l0_3 x5_2).f1),.int .i64 ((rd_T25 l0_3 x5_2).f2),.slice A358_3 ((rd_T25 l0_3 x5_2).f3).length c358_3],.agg #[.int .i64 ((rd_T25 l1_3 x5_2).f0),.int .i64 ((rd_T25 l1_3 x5_2).f1),.int .i64 ((rd_T25 l1_3 x5_2).f2),.slice A359_3 ((rd_T25 l1_3 x5_2).f3).length c359_3]] (by rfl) rfl rfl (by (try simp only [List.map_toArray,List.map_cons,List.map_nil]);first | done | rfl | (simp only [List.length_drop,List.length_take];rfl)) ?_
        with_reducible refine (ih k2 (by have:=HJ2.out;have:=HK2.out;omega) ((rd_T25 l0_3 x5_2).f0) ((rd_T25 l0_3 x5_2).f1) ((rd_T25 l0_3 x5_2).f2) _ _ ((rd_T25 l0_3 x5_2).f3) ((rd_T25 l1_3 x5_2).f0) ((rd_T25 l1_3 x5_2).f1) ((rd_T25 l1_3 x5_2).f2) _ _ ((rd_T25 l1_3 x5_2).f3) false _ ?side1 ?side2 ?side3 ?side4 A25.out).mono ?_
        (case side1=>repeat (first | exact (Kd.C_below HR358_3.out HB.out) | (with_reducible refine Kd.C_alloc ?_ _) | (with_reducible refine Kd.C_drewN ?_ _) | (with_reducible refine Kd.C_drew ?_)))
        (case side2=>exact HC358_3.out)
        (case side3=>repeat (first | exact (Kd.C_below HR359_3.out HB.out) | (with_reducible refine Kd.C_alloc ?_ _) | (with_reducible refine Kd.C_drewN ?_ _) | (with_reducible refine Kd.C_drew ?_)))
        (case side4=>exact HC359_3.out)
        rintro e w34 ⟨rfl,hb⟩;refine ⟨_,rfl,?_⟩;have n0_:=am (blk_below (g:=gb356) (o:= .cells #[.int .i64 a0_0,.int .i64 a0_1,.int .i64 a0_2,.slice (some ad358) l0_3.length c0_3] 25 (0,0)) (by exact kq BK356.out) hb);have n1_:=am (blk_below (g:=gb357) (o:= .cells #[.int .i64 a1_0,.int .i64 a1_1,.int .i64 a1_2,.slice (some ad359) l1_3.length c1_3] 25 (0,0)) (by exact kq BK357.out) hb);have n2_:=am (below_step (by repeat (first | (with_reducible first | exact HB.out | apply ba | apply bn | apply bd | refine tb_ ?_ GE356.out | refine tb_ ?_ GE357.out) | exact HB.out)) hb);clear BK356;clear BK357;clear HB;have BK356:=n0_;have BK357:=n1_;have HB:=n2_;clear n0_ n1_ n2_
        (try clear hb)
        (try clear hb2)
        (try clear hk)
        (try clear hi)
        refine hK.out _ _ ⟨(blk_cell BK356.out 0).trans rfl,(blk_cell BK356.out 1).trans rfl,(blk_cell BK356.out 2).trans rfl,(blk_cell BK356.out 3).trans rfl,(blk_cell BK357.out 0).trans rfl,(blk_cell BK357.out 1).trans rfl,(blk_cell BK357.out 2).trans rfl,(blk_cell BK357.out 3).trans rfl,((HB.out.cell (World.block_lt_of_cell? w _ hw358_0)).trans hw358_0),((HB.out.cell (World.block_lt_of_cell? w _ hw358_1)).trans hw358_1),((HB.out.cell (World.block_lt_of_cell? w _ hw358_2)).trans hw358_2),((HB.out.cell (World.block_lt_of_cell? w _ hw358_3)).trans hw358_3),((HB.out.cell (World.block_lt_of_cell? w _ hw359_0)).trans hw359_0),((HB.out.cell (World.block_lt_of_cell? w _ hw359_1)).trans hw359_1),((HB.out.cell (World.block_lt_of_cell? w _ hw359_2)).trans hw359_2),((HB.out.cell (World.block_lt_of_cell? w _ hw359_3)).trans hw359_3)⟩ (fun hHeld=>?_);clear hK K;refine nm (some 51) ?_;refine p_ HT_ 11 (some 52) (bl 12 4095) ?_;refine done_ (done_of HT_.out (by kernel_rfl)) ?_
        try go_wp2
        go_ret
        exact ⟨by first | rfl | (simp [errW_none,errW_some] <;> rfl) | (simp [*,errW_none,errW_some] <;> rfl),by repeat (first | (with_reducible first | exact HB.out | apply ba | apply bn | apply bd | refine tb_ ?_ GE356.out | refine tb_ ?_ GE357.out) | exact HB.out)⟩
       subst c26
       have H1 : (althingref7_SameCall.l0 k2 (wrap64 (x5_2 + 1)) a0_0 a0_1 a0_2 l0_3 a1_0 a1_1 a1_2 l1_3) = some r:=by rw [if_pos rfl] at H;exact H
       clear H;have H:=H1;clear H1;have H':=am H;clear H;have hnb27:=NB356_357.out;have hnc27:=NB357_356.out;have hcz28_0 : wr.cell? ⟨gb356,0,none⟩ = some (.int .i64 a0_0):=(blk_cell BK356.out 0).trans rfl;have hcz28_1 : wr.cell? ⟨gb356,1,none⟩ = some (.int .i64 a0_1):=(blk_cell BK356.out 1).trans rfl;have hcz28_2 : wr.cell? ⟨gb356,2,none⟩ = some (.int .i64 a0_2):=(blk_cell BK356.out 2).trans rfl;have hcz28_3 : wr.cell? ⟨gb356,3,none⟩ = some (.slice A0_3 l0_3.length c0_3):=(blk_cell BK356.out 3).trans rfl;have hfz28_0:=blk_frozen BK356.out 0;have hfz28_1:=blk_frozen BK356.out 1;have hfz28_2:=blk_frozen BK356.out 2;have hfz28_3:=blk_frozen BK356.out 3
       try go_wp2
       have n0_:=am (blk_drew BK356.out);have n1_:=am (blk_drew BK357.out);have n2_:=am (below_drew1 HB.out);clear BK356;clear BK357;clear HB;have BK356:=n0_;have BK357:=n1_;have HB:=n2_;clear n0_ n1_ n2_;have p358 : 0 ≤ (x5_2 : Int):=of_decide_eq_true (by first | (with_reducible assumption) | assumption);have q358 : x5_2 < (l0_3.length : Int):=of_decide_eq_true (by first | (with_reducible assumption) | assumption);obtain ⟨ad358,A358_3,c358_3,e358,hx358_0,hx358_1,hx358_2,hx358_3,hl358_3,hi358_3⟩:=at_T25 HR0_3.out x5_2 p358 q358;have hw358_3:=hx358_3;have hw358_2:=hx358_2;have hw358_1:=hx358_1;have hw358_0:=hx358_0;cases e358;replace hx358_0:=(HB.out.cell (World.block_lt_of_cell? w _ hx358_0)).trans hx358_0;replace hx358_1:=(HB.out.cell (World.block_lt_of_cell? w _ hx358_1)).trans hx358_1;replace hx358_2:=(HB.out.cell (World.block_lt_of_cell? w _ hx358_2)).trans hx358_2;replace hx358_3:=(HB.out.cell (World.block_lt_of_cell? w _ hx358_3)).trans hx358_3;have HR358_3:=am hi358_3;have HC358_3:=am hl358_3;clear hi358_3 hl358_3;replace p358:=eq_true p358;replace q358:=eq_true q358;have p359 : 0 ≤ (x5_2 : Int):=of_decide_eq_true (by first | (with_reducible assumption) | assumption);have q359 : x5_2 < (l1_3.length : Int):=of_decide_eq_true (by first | (with_reducible assumption) | assumption);obtain ⟨ad359,A359_3,c359_3,e359,hx359_0,hx359_1,hx359_2,hx359_3,hl359_3,hi359_3⟩:=at_T25 HR1_3.out x5_2 p359 q359;have hw359_3:=hx359_3;have hw359_2:=hx359_2;have hw359_1:=hx359_1;have hw359_0:=hx359_0;cases e359;replace hx359_0:=(HB.out.cell (World.block_lt_of_cell? w _ hx359_0)).trans hx359_0;replace hx359_1:=(HB.out.cell (World.block_lt_of_cell? w _ hx359_1)).trans hx359_1;replace hx359_2:=(HB.out.cell (World.block_lt_of_cell? w _ hx359_2)).trans hx359_2;replace hx359_3:=(HB.out.cell (World.block_lt_of_cell? w _ hx359_3)).trans hx359_3;have HR359_3:=am hi359_3;have HC359_3:=am hl359_3;clear hi359_3 hl359_3;replace p359:=eq_true p359;replace q359:=eq_true q359;refine start_ (n:=12) (S:=fun w'=>w'.cell? ⟨gb356,0,none⟩ = some (.int .i64 a0_0) ∧ w'.cell? ⟨gb356,1,none⟩ = some (.int .i64 a0_1) ∧ w'.cell? ⟨gb356,2,none⟩ = some (.int .i64 a0_2) ∧ w'.cell? ⟨gb356,3,none⟩ = some (.slice (some ad358) l0_3.length c0_3) ∧ w'.cell? ⟨gb357,0,none⟩ = some (.int .i64 a1_0) ∧ w'.cell? ⟨gb357,1,none⟩ = some (.int .i64 a1_1) ∧ w'.cell? ⟨gb357,2,none⟩ = some (.int .i64 a1_2) ∧ w'.cell? ⟨gb357,3,none⟩ = some (.slice (some ad359) l1_3.length c1_3) ∧ w'.cell? (ad358.add ((x5_2).toNat * 4)) = some (.int .i64 ((rd_T25 l0_3 x5_2).f0)) ∧ w'.cell? ⟨(ad358.add ((x5_2).toNat * 4)).block,(ad358.add ((x5_2).toNat * 4)).off + 1,none⟩ = some (.int .i64 ((rd_T25 l0_3 x5_2).f1)) ∧ w'.cell? ⟨(ad358.add ((x5_2).toNat * 4)).block,(ad358.add ((x5_2).toNat * 4)).off + 2,none⟩ = some (.int .i64 ((rd_T25 l0_3 x5_2).f2)) ∧ w'.cell? ⟨(ad358.add ((x5_2).toNat * 4)).block,(ad358.add ((x5_2).toNat * 4)).off + 3,none⟩ = some (.slice A358_3 ((rd_T25 l0_3 x5_2).f3).length c358_3) ∧ w'.cell? (ad359.add ((x5_2).toNat * 4)) = some (.int .i64 ((rd_T25 l1_3 x5_2).f0)) ∧ w'.cell? ⟨(ad359.add ((x5_2).toNat * 4)).block,(ad359.add ((x5_2).toNat * 4)).off + 1,none⟩ = some (.int .i64 ((rd_T25 l1_3 x5_2).f1)) ∧ w'.cell? ⟨(ad359.add ((x5_2).toNat * 4)).block,(ad359.add ((x5_2).toNat * 4)).off + 2,none⟩ = some (.int .i64 ((rd_T25 l1_3 x5_2).f2)) ∧ w'.cell? ⟨(ad359.add ((x5_2).toNat * 4)).block,(ad359.add ((x5_2).toNat * 4)).off + 3,none⟩ = some (.slice A359_3 ((rd_T25 l1_3 x5_2).f3).length c359_3)) (ds:=[]) (bl 12 0) (by kernel_rfl) rfl rfl ⟨(blk_cell BK356.out 0).trans rfl,(blk_cell BK356.out 1).trans rfl,(blk_cell BK356.out 2).trans rfl,(blk_cell BK356.out 3).trans rfl,(blk_cell BK357.out 0).trans rfl,(blk_cell BK357.out 1).trans rfl,(blk_cell BK357.out 2).trans rfl,(blk_cell BK357.out 3).trans rfl,((HB.out.cell (World.block_lt_of_cell? w _ hw358_0)).trans hw358_0),((HB.out.cell (World.block_lt_of_cell? w _ hw358_1)).trans hw358_1),((HB.out.cell (World.block_lt_of_cell? w _ hw358_2)).trans hw358_2),((HB.out.cell (World.block_lt_of_cell? w _ hw358_3)).trans hw358_3),((HB.out.cell (World.block_lt_of_cell? w _ hw359_0)).trans hw359_0),((HB.out.cell (World.block_lt_of_cell? w _ hw359_1)).trans hw359_1),((HB.out.cell (World.block_lt_of_cell? w _ hw359_2)).trans hw359_2),((HB.out.cell (World.block_lt_of_cell? w _ hw359_3)).trans hw359_3)⟩ (fun hHeld=>?_);refine with_tabW althingref7_SameCall.tab6 althingref7_SameCall.bits6 (fun HT_ HW_=>?_)
       generalize wr.drew = w29 at BK356 BK357 HB HR358_3 HR359_3 hx358_0 hx358_1 hx358_2 hx358_3 hx359_0 hx359_1 hx359_2 hx359_3 hHeld ⊢;refine p_ HT_ 0 (some 41) (bl 12 1) ?_;refine p_ HT_ 2 (some 43) (bl 12 5) ?_;refine p_ HT_ 5 (some 46) (bl 12 37) ?_;refine p_ HT_ 7 (some 48) (bl 12 165) ?_;refine take_ (i:=1) (N:=some 42) (v:=?_) (a':=?_) #[true,true,true,false,false,true,false,true,false,false,false,false] rfl rfl (take_ofW HT_.out HW_.out (by kernel_rfl)) (fun _ _ _ h=>h) (Or.inl ⟨by rfl,?_⟩) hHeld ?_ ?_;rotate_left
       ·rintro w' ⟨s0,s1,s2,s3,s4,s5,s6,s7,s8,s9,s10,s11,s12,s13,s14,s15⟩;go_simp
        with_reducible rfl
       rotate_left
       ·simp only [Act.put,List.setIfInBounds_toArray,List.set_cons_zero,List.set_cons_succ,i64_w,i32_w]
        rfl
       refine p_ HT_ 3 (some 44) (bl 12 175) ?_;refine take_ (i:=4) (N:=some 45) (v:=?_) (a':=?_) #[true,true,true,true,true,true,false,true,false,false,false,false] rfl rfl (take_ofW HT_.out HW_.out (by kernel_rfl)) (fun _ _ _ h=>h) (Or.inl ⟨by rfl,?_⟩) hHeld ?_ ?_;rotate_left
       ·rintro w' ⟨s0,s1,s2,s3,s4,s5,s6,s7,s8,s9,s10,s11,s12,s13,s14,s15⟩;go_simp
        with_reducible rfl
       rotate_left
       ·simp only [Act.put,List.setIfInBounds_toArray,List.set_cons_zero,List.set_cons_succ,i64_w,i32_w]
        rfl
       refine take_ (i:=6) (N:=some 47) (v:=?_) (a':=?_) #[true,true,true,true,true,true,true,true,false,false,false,false] rfl rfl (take_ofW HT_.out HW_.out (by kernel_rfl)) (fun _ _ _ h=>h) (Or.inl ⟨by rfl,?_⟩) hHeld ?_ ?_;rotate_left
       ·rintro w' ⟨s0,s1,s2,s3,s4,s5,s6,s7,s8,s9,s10,s11,s12,s13,s14,s15⟩;go_simp
        with_reducible rfl
       rotate_left
       ·simp only [Act.put,List.setIfInBounds_toArray,List.set_cons_zero,List.set_cons_succ,i64_w,i32_w]
        rfl
       refine p_ HT_ 8 (some 49) (bl 12 511) ?_;refine take_ (i:=9) (N:=some 50) (v:=?_) (a':=?_) #[true,true,true,true,true,true,true,true,true,true,false,false] rfl rfl (take_ofW HT_.out HW_.out (by kernel_rfl)) (fun _ _ _ h=>h) (Or.inl ⟨by rfl,?_⟩) hHeld ?_ ?_;rotate_left
       ·rintro w' ⟨s0,s1,s2,s3,s4,s5,s6,s7,s8,s9,s10,s11,s12,s13,s14,s15⟩;go_simp
        with_reducible rfl
       rotate_left
       ·simp only [Act.put,List.setIfInBounds_toArray,List.set_cons_zero,List.set_cons_succ,i64_w,i32_w]
        rfl
       refine o_ HT_ 10 (some 51) (bl 12 2047) fun K hK=>?_;refine goes_ Try.func26 (by kernel_rfl) rfl #[.agg #[.int .i64 ((rd_T25 l0_3 x5_2).f0),.int .i64 ((rd_T25 l0_3 x5_2).f1),.int .i64 ((rd_T25 l0_3 x5_2).f2),.slice A358_3 ((rd_T25 l0_3 x5_2).f3).length c358_3],.agg #[.int .i64 ((rd_T25 l1_3 x5_2).f0),.int .i64 ((rd_T25 l1_3 x5_2).f1),.int .i64 ((rd_T25 l1_3 x5_2).f2),.slice A359_3 ((rd_T25 l1_3 x5_2).f3).length c359_3]] (by rfl) rfl rfl (by (try simp only [List.map_toArray,List.map_cons,List.map_nil]);first | done | rfl | (simp only [List.length_drop,List.length_take];rfl)) ?_
       with_reducible refine (ih k2 (by have:=HJ2.out;have:=HK2.out;omega) ((rd_T25 l0_3 x5_2).f0) ((rd_T25 l0_3 x5_2).f1) ((rd_T25 l0_3 x5_2).f2) _ _ ((rd_T25 l0_3 x5_2).f3) ((rd_T25 l1_3 x5_2).f0) ((rd_T25 l1_3 x5_2).f1) ((rd_T25 l1_3 x5_2).f2) _ _ ((rd_T25 l1_3 x5_2).f3) true _ ?side1 ?side2 ?side3 ?side4 A25.out).mono ?_
       (case side1=>repeat (first | exact (Kd.C_below HR358_3.out HB.out) | (with_reducible refine Kd.C_alloc ?_ _) | (with_reducible refine Kd.C_drewN ?_ _) | (with_reducible refine Kd.C_drew ?_)))
       (case side2=>exact HC358_3.out)
       (case side3=>repeat (first | exact (Kd.C_below HR359_3.out HB.out) | (with_reducible refine Kd.C_alloc ?_ _) | (with_reducible refine Kd.C_drewN ?_ _) | (with_reducible refine Kd.C_drew ?_)))
       (case side4=>exact HC359_3.out)
       rintro e w30 ⟨rfl,hb⟩;refine ⟨_,rfl,?_⟩;have n0_:=am (blk_below (g:=gb356) (o:= .cells #[.int .i64 a0_0,.int .i64 a0_1,.int .i64 a0_2,.slice (some ad358) l0_3.length c0_3] 25 (0,0)) (by exact kq BK356.out) hb);have n1_:=am (blk_below (g:=gb357) (o:= .cells #[.int .i64 a1_0,.int .i64 a1_1,.int .i64 a1_2,.slice (some ad359) l1_3.length c1_3] 25 (0,0)) (by exact kq BK357.out) hb);have n2_:=am (below_step (by repeat (first | (with_reducible first | exact HB.out | apply ba | apply bn | apply bd | refine tb_ ?_ GE356.out | refine tb_ ?_ GE357.out) | exact HB.out)) hb);clear BK356;clear BK357;clear HB;have BK356:=n0_;have BK357:=n1_;have HB:=n2_;clear n0_ n1_ n2_
       (try clear hb)
       (try clear hb2)
       (try clear hk)
       (try clear hi)
       refine hK.out _ _ ⟨(blk_cell BK356.out 0).trans rfl,(blk_cell BK356.out 1).trans rfl,(blk_cell BK356.out 2).trans rfl,(blk_cell BK356.out 3).trans rfl,(blk_cell BK357.out 0).trans rfl,(blk_cell BK357.out 1).trans rfl,(blk_cell BK357.out 2).trans rfl,(blk_cell BK357.out 3).trans rfl,((HB.out.cell (World.block_lt_of_cell? w _ hw358_0)).trans hw358_0),((HB.out.cell (World.block_lt_of_cell? w _ hw358_1)).trans hw358_1),((HB.out.cell (World.block_lt_of_cell? w _ hw358_2)).trans hw358_2),((HB.out.cell (World.block_lt_of_cell? w _ hw358_3)).trans hw358_3),((HB.out.cell (World.block_lt_of_cell? w _ hw359_0)).trans hw359_0),((HB.out.cell (World.block_lt_of_cell? w _ hw359_1)).trans hw359_1),((HB.out.cell (World.block_lt_of_cell? w _ hw359_2)).trans hw359_2),((HB.out.cell (World.block_lt_of_cell? w _ hw359_3)).trans hw359_3)⟩ (fun hHeld=>?_);clear hK K;refine nm (some 51) ?_;refine p_ HT_ 11 (some 52) (bl 12 4095) ?_;refine done_ (done_of HT_.out (by kernel_rfl)) ?_
       try go_wp2
       go_roundg k2
       case measure=>have:=HJ2.out;have:=HK2.out;omega
       case rel=>exact ⟨(wrap64 (x5_2 + 1)),(by first | rfl | (simp;done) | (simp [*];done)),H',⟨by have:=HJ2.out;have:=HK2.out;omega⟩,⟨by exact kq BK356.out⟩,⟨by exact kq BK357.out⟩,⟨by repeat (first | (with_reducible first | exact HB.out | apply ba | apply bn | apply bd | refine tb_ ?_ GE356.out | refine tb_ ?_ GE357.out) | exact HB.out)⟩⟩
-- NOT PRINTED: function 23 (althingref7_SameExt)
-- NOT PRINTED: function 7 (althinglaw7_CodeExts)
-- NOT PRINTED: function 8 (althinglaw7_CodeBack)
-- NOT PRINTED: function 9 (althinglaw7_CodeCut)
end Go.Proofs.Ytilckocpgififaa.G
/- Whether two calls are one, as the reference tells it, plainly: the same as the code's. -/
namespace Go.Proofs.Ytilckocpgififaa.G
open Go.RowKit Go.Shelf Go.Proofs.YtilckocpgififaaW.PrintWords Go.Proofs.YtilckocpgififaaW.PrintMore Go.Proofs.Ytilckocpgififaa.PNum
set_option linter.unusedVariables false
set_option linter.unusedSimpArgs false
def RSame (f K : Nat) (x y : S25) : Prop:=∃ r,sameF f x y = some r ∧ ∀ k,K ≤ k → althingref7_SameCall.f k x.f0 x.f1 x.f2 x.f3 y.f0 y.f1 y.f2 y.f3 = some r
theorem RSame.mono {f K K' : Nat} {x y : S25} (h : RSame f K x y) (hk : K ≤ K') : RSame f K' x y:=by
 obtain ⟨r,h1,h2⟩:=h;exact ⟨r,h1,fun k hk'=>h2 k (by omega)⟩
theorem rsame_all (f : Nat) : ∀ (l m : List S25),l.length = m.length → (∀ x ∈ l,∀ y,∃ K,RSame f K x y) → ∃ K,∀ j (h1 : j < l.length) (h2 : j < m.length),RSame f K l[j] m[j]
 | [],_,_,_=>⟨0,fun j h1 _=>by cases h1⟩
 | x :: l,[],h,_=>by cases h
 | x :: l,y :: m,h,hx=>by
   obtain ⟨K1,h1⟩:=hx x (by simp) y;obtain ⟨K2,h2⟩:=rsame_all f l m (by simpa using h) (fun z hz=>hx z (by simp [hz]));refine ⟨max K1 K2,fun j j1 j2=>?_⟩
   cases j with
   | zero=>exact h1.mono (by omega)
   | succ j=>exact (h2 j (by simpa using j1) (by simpa using j2)).mono (by omega)
theorem rsame_loop (f K : Nat) (l m : List S25) (hl : l.length = m.length) (hmax : l.length ≤ 9223372036854775807) (hK : ∀ j (h1 : j < l.length) (h2 : j < m.length),RSame f K l[j] m[j]) (a b c a' b' c' : Int) (d : Nat) :
 ∀ (i : Nat),i + d = l.length → ∃ r,allM (sameF f) (l.drop i) (m.drop i) = some r ∧ ∀ k,K + d < k → althingref7_SameCall.l0 k i a b c l a' b' c' m = some r:=by
 induction d with
 | zero=>
   intro i hi;refine ⟨true,?_,fun k hk=>?_⟩
   ·rw [List.drop_eq_nil_of_le (by omega)];rfl
   ·obtain ⟨k,rfl⟩ : ∃ q,k = q + 1:=⟨k - 1,by omega⟩;rw [althingref7_SameCall.l0,if_neg (by omega)]
 | succ d ihd=>
   intro i hi
   have h1 : i < l.length:=by omega
   have h2 : i < m.length:=by omega
   obtain ⟨r0,s1,s2⟩:=hK i h1 h2;obtain ⟨r1,t1,t2⟩:=ihd (i + 1) (by omega)
   have e1 : wrap64 ((i : Int) + 1) = ((i + 1 : Nat) : Int):=by rw [wrap_in (by omega) (by omega)];omega
   have c1 : (i : Int) < (l.length : Int):=by omega
   have c2 : (0 : Int) ≤ (i : Int):=by omega
   have c3 : (i : Int) < (m.length : Int):=by omega
   have step : ∀ k,K + (d + 1) < k → althingref7_SameCall.l0 k i a b c l a' b' c' m = if r0 = true then some r1 else some false:=by
    intro k hk;obtain ⟨k,rfl⟩ : ∃ q,k = q + 1:=⟨k - 1,by omega⟩;rw [althingref7_SameCall.l0,if_pos c1,if_pos c2,if_pos c3,rd_natT l i h1,rd_natT m i h2,s2 k (by omega),Option.bind_some,e1,t2 k (by omega)]
   have hall : allM (sameF f) (l.drop i) (m.drop i) = if r0 = true then some r1 else some false:=by
    rw [List.drop_eq_getElem_cons h1,List.drop_eq_getElem_cons h2,allM,s1,Option.bind_some,t1]
   cases r0 with
   | true=>exact ⟨r1,by rw [hall,if_pos rfl],fun k hk=>by rw [step k hk,if_pos rfl]⟩
   | false=>exact ⟨false,by rw [hall,if_neg (by decide)],fun k hk=>by rw [step k hk,if_neg (by decide)]⟩
theorem rsame : ∀ (f : Nat) (a b : S25),Fits f a → ∃ K,RSame f K a b
 | 0,_,_,h=>h.elim
 | f + 1,a,b,⟨hl,h⟩=>by
   by_cases he : a.f0 = b.f0 ∧ a.f1 = b.f1 ∧ a.f2 = b.f2 ∧ a.f3.length = b.f3.length
   ·obtain ⟨e0,e1,e2,e3⟩:=he;obtain ⟨K,hK⟩:=rsame_all f a.f3 b.f3 e3 (fun x hx y=>rsame f x y (h x hx));obtain ⟨r,r1,r2⟩:=rsame_loop f K a.f3 b.f3 e3 hl hK a.f0 a.f1 a.f2 b.f0 b.f1 b.f2 a.f3.length 0 (by omega);refine ⟨K + a.f3.length + 5,r,?_,fun k hk=>?_⟩
    ·rw [sameF,if_pos ⟨e0,e1,e2,e3⟩];rwa [List.drop_zero,List.drop_zero] at r1
    ·obtain ⟨k,rfl⟩ : ∃ q,k = q + 2:=⟨k - 2,by omega⟩;rw [althingref7_SameCall.f,if_pos e0,if_pos e1,if_pos e2,althingref7_SameCall.j0]
     have hb : ((a.f3.length : Int) != (b.f3.length : Int)) = false:=by rw [e3];simp
     rw [hb,if_neg (by decide)];exact r2 k (by omega)
   refine ⟨5,false,by rw [sameF,if_neg he],fun k hk=>?_⟩;obtain ⟨k,rfl⟩ : ∃ q,k = q + 2:=⟨k - 2,by omega⟩
   have j : ∀ (p q r : Int) (l : List S25) (p' q' r' : Int) (l' : List S25),althingref7_SameCall.j0 (k + 1) true p q r l p' q' r' l' = some false:=fun p q r l p' q' r' l'=>by rw [althingref7_SameCall.j0,if_pos rfl]
   rw [althingref7_SameCall.f]
   by_cases e0 : a.f0 = b.f0
   rotate_left
   ·rw [if_neg e0,j]
   rw [if_pos e0]
   by_cases e1 : a.f1 = b.f1
   rotate_left
   ·rw [if_neg e1,j]
   rw [if_pos e1]
   by_cases e2 : a.f2 = b.f2
   rotate_left
   ·rw [if_neg e2,j]
   rw [if_pos e2]
   have e3 : ((a.f3.length : Int) != (b.f3.length : Int)) = true:=by
    rw [bne_iff_ne];intro e;exact he ⟨e0,e1,e2,by omega⟩
   rw [e3,j]
theorem refSameCall_calls (f : Nat) (a b : S25) (A B : Option Addr) (c d : Nat) (r : Bool) (w : World) (hC : Kd.C k25 w A a.f3.length a.f3) (hc : a.f3.length ≤ c) (hD : Kd.C k25 w B b.f3.length b.f3) (hd : b.f3.length ≤ d) (hf : Fits f a) (h : sameF f a b = some r) :
 Calls Try.prog 26 #[.agg #[.int .i64 a.f0,.int .i64 a.f1,.int .i64 a.f2,.slice A a.f3.length c],.agg #[.int .i64 b.f0,.int .i64 b.f1,.int .i64 b.f2,.slice B b.f3.length d]] w fun e w'=>e = .returned (.bool r) ∧ Below w.heap.size w w':=by
 obtain ⟨K,r',h1,h2⟩:=rsame f a b hf;rw [h] at h1;obtain rfl:=Option.some.inj h1;exact althingref7_SameCall.calls K _ _ _ A c _ _ _ _ B d _ r w hC hc hD hd (h2 K (Nat.le_refl _))
end Go.Proofs.Ytilckocpgififaa.G
/- The reference's SameExt: the same as the code's. -/
namespace Go.Proofs.Ytilckocpgififaa.G
open Go.Extern.Stop (cell)
open Go.RowKit Go.Proofs.YtilckocpgififaaW.PrintWords Go.Proofs.YtilckocpgififaaW.PrintLast Go.Proofs.YtilckocpgififaaW.PrintMore Go.Proofs.Ytilckocpgififaa.PNum
set_option linter.unusedVariables false
set_option linter.unusedSimpArgs false
set_option maxRecDepth 100000 in
set_option maxHeartbeats 16000000 in
theorem refSameExt_calls (f : Nat) (x y : Ext) (A B : Option Addr) (c d : Nat) (r : Bool) (w : World) (hx : x.sum.length = 32) (hy : y.sum.length = 32) (hC : Kd.C k25 w A x.call.f3.length x.call.f3) (hc : x.call.f3.length ≤ c) (hD : Kd.C k25 w B y.call.f3.length y.call.f3) (hd : y.call.f3.length ≤ d) (hf : Fits f x.call) (hr : sameF f x.call y.call = some r) :
 Calls Try.prog 23 #[.agg (x.cells A c).toArray,.agg (y.cells B d).toArray] w fun e w'=>e = .returned (.bool (r && sameX x y)) ∧ Below w.heap.size w w':=by
 obtain ⟨X,hX⟩ : ∃ X,X = (x.cells A c).toArray:=⟨_,rfl⟩;obtain ⟨Y,hY⟩ : ∃ Y,Y = (y.cells B d).toArray:=⟨_,rfl⟩;rw [← hX,← hY];have HX:=am hX;have HY:=am hY;have HS : Aside0 (∀ w',Below w.heap.size w w' → Calls Try.prog 26 #[.agg #[.int .i64 x.call.f0,.int .i64 x.call.f1,.int .i64 x.call.f2,.slice A x.call.f3.length c],.agg #[.int .i64 y.call.f0,.int .i64 y.call.f1,.int .i64 y.call.f2,.slice B y.call.f3.length d]] w' fun e w''=>e = .returned (.bool r) ∧ Below w'.heap.size w' w''):=⟨fun w' hb=>refSameCall_calls f x.call y.call A B c d r w' (Kd.C_below hC hb) hc (Kd.C_below hD hb) hd hf hr⟩;have Hx:=am hx;have Hy:=am hy;clear hX hY hC hD hr hx hy hf hc hd;have Heq:=eql_sum x y Hx.out Hy.out;go_enter Try.func23,Try.ntmps23
 go_upto_region 1 with (first
  | ((with_reducible refine gate_dst (N:=2) rfl ?_);refine box_event ?hg (N:=2) ?hd (cs:=X) (t:=33) ?hr ?_;(case hd=>rfl);(case hg=>rfl);(case hr=>first | (go_simp;done) | (go_simp;rfl));intro g1 hg1 w1 hbox1 hb1;have G1:=am hg1;have BX1:=am (rangeAt_box (HX.out ▸ hbox1));have HXlt:=am (blk_lt hbox1);have HB1:=am hb1;clear hg1 hbox1 hb1)
  | ((with_reducible refine gate_dst (N:=3) rfl ?_);refine box_event ?hg (N:=3) ?hd (cs:=Y) (t:=33) ?hr ?_;(case hd=>rfl);(case hg=>rfl);(case hr=>first | (go_simp;done) | (go_simp;rfl));intro g2 hg2 w2 hbox2 hb2;have G2:=am hg2;have BY2:=am (rangeAt_box (HY.out ▸ hbox2));have HYlt:=am (blk_lt hbox2);have HB2:=am hb2;clear hg2 hbox2 hb2))
 have BX4:=rangeAt_below BX1.out HB2.out (by have:=HB1.out.size;have:=G1.out;have:=HXlt.out;omega);have HB:=am (below_step HB1.out HB2.out);obtain ⟨p0,p1,p2,p3,p4,p5,p6⟩:=x.at_head A c BX4;obtain ⟨q0,q1,q2,q3,q4,q5,q6⟩:=y.at_head B d BY2.out;obtain ⟨u0,u1,u2,u3,u4,u5⟩:=x.at_vote A c Hx.out BX4;obtain ⟨v0,v1,v2,v3,v4,v5⟩:=y.at_vote B d Hy.out BY2.out;obtain ⟨c0,c1,c2,c3⟩:=x.at_call A c Hx.out BX4;obtain ⟨d0,d1,d2,d3⟩:=y.at_call B d Hy.out BY2.out;have S4:=am (x.at_sum A c BX4);have T4:=am (y.at_sum B d BY2.out);clear BX4
 go_wp2_with (first
  | ((with_reducible refine gate_dst (N:=54) rfl ?_);(try (refine gate_guard (by rfl) ?_;dsimp only));refine wpList_load_mid rfl 29 _ rfl g1 7 rfl (x.sum.map cell) _ S4.out Try.underlying29 rfl (by rw [List.length_map,Hx.out];exact info_hash) ?_)
  | ((with_reducible refine gate_dst (N:=56) rfl ?_);(try (refine gate_guard (by rfl) ?_;dsimp only));refine wpList_load_mid rfl 29 _ rfl g2 7 rfl (y.sum.map cell) _ T4.out Try.underlying29 rfl (by rw [List.length_map,Hy.out];exact info_hash) ?_)
  | (go_at_call 26;(with_reducible refine (HS.out _ HB.out).mono ?_);rintro e w4 ⟨rfl,hb4⟩;have HB4:=am (below_step HB.out hb4);clear hb4))
 all_goals go_ret
 all_goals first | exact ⟨by cases r <;> simp [sameX, *],HB4.out⟩ | exact ⟨by cases r <;> simp [sameX, *],HB.out⟩
end Go.Proofs.Ytilckocpgififaa.G
