/- althingref7.read: bytes as a call, as the reference reads them (laid by mkrefread.py). -/
import Derived.Test.YtilckocpgififaaExHStep
import Derived.Test.YtilckocpgififaaExPRead
import Derived.Deep.RegionHeld3
import Derived.Test.YtilckocpgififaaExGx7
import Derived.Test.YtilckocpgififaaExHTaken0
namespace Go.Proofs.Ytilckocpgififaa.G
open Go.RowKit Go.Shelf Go.Proofs.YtilckocpgififaaW.PrintWords Go.Proofs.YtilckocpgififaaW.PrintLast Go.Proofs.YtilckocpgififaaW.PrintMore Go.Proofs.Ytilckocpgififaa.PNum
set_option linter.unusedVariables false
set_option linter.unusedSimpArgs false
theorem results_cellR {P : Program} {fn : Func} {t : Tmp} {ty : TypeId} (h : fn.results = #[.cell t ty]) (tmps : Array Value) {w : World} {g : Nat} {v : Value} (hp : tmps.getD t undef = .pointer (some ⟨g,0,none⟩)) (hv : (loadVar ty ⟨g,0,none⟩).run P w = .ok v w) : (results fn tmps).run P w = .ok v w:=by
 have hp' : tmps[t]?.getD undef = .pointer (some ⟨g,0,none⟩):=by rw [← hp];simp
 simp [results,h,hp',asAddr,hv]
def refread_r9.T : Bool × List (List Nat × List Nat):=(true,[([],[]),([0],[0]),([],[]),([2],[2]),([],[]),([4],[4]),([3,5,3],[3,5]),([6],[6]),([1,7,6],[1,7]),([0,1,2,3,4,5,6,7,8],[]),([9,8,8,0,1,2,3,4,5,6,7,8],[8,9])])
def refread_r9.B : List Nat:=[0,1,0,4,0,16,60,124,255,511,1023]
theorem refread_r9.tab : rtab .any (opsOf Try.f50 9) = refread_r9.T:=by kernel_rfl
theorem refread_r9.bits : waitsOk refread_r9.T.2 refread_r9.B = true:=by kernel_rfl
def refread_r9.l0 : Array Bool:=bl 11 1
def refread_r9.l1 : Array Bool:=bl 11 3
def refread_r9.l2 : Array Bool:=bl 11 7
def refread_r9.l3 : Array Bool:=bl 11 23
def refread_r9.l4 : Array Bool:=bl 11 55
def refread_r9.l5 : Array Bool:=bl 11 63
def refread_r9.l6 : Array Bool:=bl 11 127
def refread_r9.l7 : Array Bool:=bl 11 255
def refread_r9.l8 : Array Bool:=bl 11 511
def refread_r9.l9 : Array Bool:=bl 11 1023
def refread_r9.l10 : Array Bool:=bl 11 2047
theorem kidsR_end (dec : List Int → S25) (m : Nat) (l : List Int) (e : Bool) (acc : List S25) (h : m = 0 ∨ e = true) : kidsR dec m l e acc = acc:=by
 cases m with
 | zero=>rfl
 | succ m=>rcases h with h | h
           ·cases h
           ·rw [kidsR,if_pos h]
theorem built_one (v : Int) : Try.prog.built 25 [(0,.int .i64 v)] = some #[.int .i64 v,.int .i64 0,.int .i64 0,.slice none 0 0]:=by kernel_rfl
theorem build_run1' {P : Program} {o : Oper} {a : Act} {W : World} {t : TypeId} {i : Nat} {y : Operand} {x v : Value} (ho : o.op = .build t #[(i,y)]) (hy : a.eval y = x) (hr : (Instr.build t #[(i,x)]).run P W = .ok v W) : (execOp a.eval o).run P W = .ok (.value v) W:=by
 unfold execOp
 simp only [ho,List.map_toArray,List.map_nil,List.map_cons,hy,Sem.run_bind,hr,Result.andThen_ok,Sem.run_pure]
def ReadsAt (f : Nat) (d : Int) : Prop:=∀ (A : Option Addr) (c : Nat) (l : List Int) (w : World),Kd.C (Kd.int .u8) w A l.length l → l.length ≤ c → IsBytes l → l.length < 140737488355328 →
 Calls Try.prog 50 #[.slice A l.length c,.int .i64 d] w fun e w'=>
  (∃ L : List Value,e = .returned (.agg L.toArray) ∧ L.length = 4 ∧ (∀ v ∈ L,v.oneCell' = true) ∧ k25.M w' w.heap.size (fun _=>True) (readF f l) L) ∧ Below w.heap.size w w'
set_option maxRecDepth 100000 in
set_option maxHeartbeats 32000000 in
theorem read_step (f : Nat) (d : Int) (hd : d + f = 3) (hd0 : 0 ≤ d) (ih : ∀ g,f = g + 1 → ReadsAt g (d + 1)) : ReadsAt f d:=by
 intro A c l w hC hc hby hsh;obtain ⟨B,hBe⟩ : ∃ B,B = w.heap.size:=⟨_,rfl⟩;rw [← hBe];obtain ⟨Z,hZ⟩ : ∃ Z,Z = zeroC:=⟨_,rfl⟩
 have hZl : Z.length = 4:=by rw [hZ];rfl
 have hZo : ∀ v ∈ Z,v.oneCell' = true:=by rw [hZ];intro v hv;simp [zeroC] at hv;rcases hv with rfl | rfl | rfl | rfl <;> rfl
 have HAL : Aside0 (∀ w,(zeroValue 25).run Try.prog w = .ok (.agg Z.toArray) w):=⟨fun w=>by rw [hZ];exact zero_runC w⟩;have HZl:=am hZl;have HZo:=am hZo;have HZ:=am hZ;have HC:=am hC;have Hc:=am hc;have Hby:=am hby;have Hsh:=am hsh;have HBe:=am hBe;have HIH:=am ih;have Hfar : Aside0 (∀ ad,A = some ad → 0 < l.length → ad.block < B):=⟨fun ad e hn=>by rw [hBe];subst e;exact Kd.C_lt hC hn (by decide)⟩;clear hZ hZl hZo hC hc hby hsh hBe ih;go_enter Try.func50,Try.ntmps50
 go_upto_region 1 with ((with_reducible refine gate_dst (N:=4) rfl ?_);refine box_event ?hg (N:=4) ?hd (cs:=Z.toArray) (t:=25) ?hr ?_;(case hd=>rfl);(case hg=>rfl);(case hr=>first | (simp [execOp,Instr.alloc,HAL.out,newVar,newRow,go_sem];done) | (simp [execOp,Instr.alloc,HAL.out,newVar,newRow,go_sem];rfl) | (go_simp;done) | (go_simp;rfl));intro g4 hg_ w1 hbox_ hb_;have h4_ : Lies w1 g4 Z:=Lies.box hbox_;have G4:=am hg_;have L41:=am h4_;have B1:=am hb_;clear h4_;clear hg_ hbox_ hb_)
 go_upto_region 2 with ((with_reducible refine gate_dst (N:=11) rfl ?_);refine box_event ?hg (N:=11) ?hd (cs:=#[.slice A l.length c,.bool false]) (t:=80) ?hr ?_;(case hd=>rfl);(case hg=>rfl);(case hr=>first | (simp [execOp,Instr.alloc,HAL.out,newVar,newRow,go_sem];done) | (simp [execOp,Instr.alloc,HAL.out,newVar,newRow,go_sem];rfl) | (go_simp;done) | (go_simp;rfl));intro R hg_ w2 hbox_ hb_;have hr_ : Lies w2 R [.slice A l.length c,.bool false]:=Lies.box hbox_;have GR:=am hg_;have LR2:=am hr_;have B2:=am hb_;clear hr_;clear hg_ hbox_ hb_)
 have hlt2 : B ≤ g4 ∧ g4 < R ∧ R < w2.heap.size ∧ w1.heap.size ≤ w2.heap.size ∧ g4 < w1.heap.size ∧ B ≤ w1.heap.size:=by
  have e4:=G4.out;have eR:=GR.out;have eB:=HBe.out;have h1:=L41.out.lt (by rw [HZl.out];decide);have h2:=LR2.out.lt (by simp);have h3:=B1.out.size;have h4:=B2.out.size;exact ⟨by omega,by omega,by omega,by omega,by omega,by omega⟩
 have b2_ : Below B w w2:=by have eB:=HBe.out;rw [eB];exact below_step B1.out B2.out
 have hr2_ : RdAt B w2 R A c l false:=⟨LR2.out,Hc.out,Kd.C_below HC.out (by rw [← HBe.out];exact b2_),Hfar.out,Hby.out,Hsh.out,by omega⟩;have HR0z:=am hr2_;have L42:=am (L41.out.below B2.out (by omega));have B02:=am b2_;have Hlt2:=am hlt2;clear b2_ hr2_ hlt2;obtain ⟨v1,hv1⟩ : ∃ v,v = (rn1 l).1:=⟨_,rfl⟩;have hn1:=rnum_calls B R A c l false w2 HR0z.out;rw [show rnum l false = rn1 l from rfl,← hv1] at hn1;have HV1:=am hv1;have HN1:=am hn1;clear hv1 hn1;obtain ⟨LC1,hLC1⟩ : ∃ LC : List Value,LC = [.int .i64 v1,.int .i64 0,.int .i64 0,.slice none 0 0]:=⟨_,rfl⟩;have HLC1:=am hLC1;have HLC1l : Aside0 (LC1.length = 4):=⟨by rw [hLC1];rfl⟩;have HLC1o : Aside0 (∀ v ∈ LC1,v.oneCell' = true):=⟨by rw [hLC1];intro v hv;simp at hv;rcases hv with rfl | rfl | rfl | rfl <;> rfl⟩;have HB1 : Aside0 (∀ W,(Instr.build 25 #[(0,Value.int .i64 v1)]).run Try.prog W = .ok (.agg LC1.toArray) W):=⟨fun W=>by rw [hLC1];exact run_build W _ _ _ (built_one v1)⟩;clear hLC1
 go_upto_region 3 with (first
  | (go_at_call 47;go_loud ((with_reducible refine HN1.out.mono ?_);rintro e w3 ⟨rfl,⟨A1,c1,hr_⟩,hk_⟩;have HR1:=am hr_;have HK1:=am hk_;clear hr_ hk_))
  | ((with_reducible refine gate_dst (N:=14) rfl ?_);refine Kd.event_run (v:= .agg LC1.toArray) (w1:=w3) rfl (build_run1' rfl rfl (HB1.out w3)) ?_)
  | ((with_reducible refine gate_dst (N:=6) rfl ?_);refine box_event ?hg (N:=6) ?hd (cs:=Z.toArray) (t:=25) ?hr ?_;(case hd=>rfl);(case hg=>rfl);(case hr=>first | (simp [execOp,Instr.alloc,HAL.out,newVar,newRow,go_sem];done) | (simp [execOp,Instr.alloc,HAL.out,newVar,newRow,go_sem];rfl) | (go_simp;done) | (go_simp;rfl));intro gc hg_ w4 hbox_ hb_;have hr_ : Lies w4 gc Z:=Lies.box hbox_;have GC:=am hg_;have LC4:=am hr_;have B4:=am hb_;clear hr_;clear hg_ hbox_ hb_)
  | ((with_reducible refine gate_store (t:=25) (p:=6) rfl ?_);refine wpList_store_mid rfl 25 _ _ rfl gc 0 LC1.toArray rfl rfl (by rw [List.size_toArray,HLC1l.out,← HZl.out];exact LC4.out.there) (by rw [List.size_toArray,HLC1l.out];exact info_call) (all_oneCell_toArray HLC1o.out) ?_))
 have z3:=HK1.out.size;have z4:=B4.out.size;have eC:=GC.out;have gcl : gc < w4.heap.size:=LC4.out.lt (by rw [HZl.out];decide);have hl2:=Hlt2.out
 have n0_ : Lies (w4.setCells gc 0 LC1) gc LC1:=by have:=LC4.out.splice 0 LC1 (by rw [HLC1l.out,HZl.out];decide);rwa [List.take_zero,List.nil_append,List.drop_of_length_le (by rw [HLC1l.out,HZl.out];decide),List.append_nil] at this
 have k0_ : Kept (fun k=>k = gc) w4 (w4.setCells gc 0 LC1):=kept_setCells gc 0 LC1 w4;have r0_:=(HR1.out.below B4.out).kept k0_ (fun k hk=>by have hk' : k = gc:=hk;omega) (by show ¬ R = gc;omega);have m4_:=((L42.out.kept HK1.out (by rw [HZl.out];decide) (by show ¬ g4 = R;omega)).below B4.out (by omega)).kept k0_ (by rw [HZl.out];decide) (by show ¬ g4 = gc;omega);have b0_ : Below B w (w4.setCells gc 0 LC1):=below_setCells' gc (by omega) LC1 0 w4 ((HK1.out.to_below B02.out (by omega) (fun k hk=>by have hk' : k = R:=hk;omega)).trans (B4.out.mono (by omega)));have z0_:=k0_.size;generalize World.setCells _ _ _ _ = w5 at n0_ k0_ r0_ m4_ b0_ z0_ ⊢;have HR1z:=am r0_;have LC5:=am n0_;have L45:=am m4_;have B05:=am b0_;have Hlt : Aside0 (B ≤ g4 ∧ g4 < R ∧ R < gc ∧ gc < w4.heap.size ∧ w4.heap.size ≤ w5.heap.size ∧ B ≤ w4.heap.size):=⟨by omega,by omega,by omega,by omega,by omega,by omega⟩;clear n0_ k0_ r0_ m4_ b0_ z0_ z3 z4 eC gcl hl2;have HneC : Aside0 (¬ gc = R):=⟨by have:=Hlt.out;omega⟩;obtain ⟨v2,hv2⟩ : ∃ v,v = (rn2 l).1:=⟨_,rfl⟩;have hn2:=rnum_calls B R A1 c1 (rn1 l).2.1 (rn1 l).2.2 w5 HR1z.out;rw [show rnum (rn1 l).2.1 (rn1 l).2.2 = rn2 l from rfl,← hv2] at hn2;have HV2:=am hv2;have HN2:=am hn2;clear hv2 hn2
 go_upto_region 4 with (go_at_call 47;go_loud ((with_reducible refine HN2.out.mono ?_);rintro e w6 ⟨rfl,⟨A2,c2,hr_⟩,hk_⟩;have HR2:=am hr_;have HK2:=am hk_;clear hr_ hk_;have nC_:=LC5.out.kept HK2.out (by simp [HLC1l.out]) HneC.out;have uC:=nC_.cell (i:=1) (v:= .int .i64 0) (by rw [HLC1.out];rfl);have fC:=nC_.frozen 1 (by simp [HLC1l.out]);clear nC_))
 have hl2:=Hlt.out;have z3:=HK2.out.size
 have zz_ : w4.heap.size ≤ w6.heap.size:=by omega
 have n_:=(LC5.out.kept HK2.out (by simp [HLC1l.out]) (by show ¬ gc = R;omega)).set 1 (by simp [HLC1l.out]) (.int .i64 v2);have m4_:=(L45.out.kept HK2.out (by rw [HZl.out];decide) (by show ¬ g4 = R;omega)).set_far (b:=gc) (by omega) 1 (.int .i64 v2);have r_:=HR2.out.set_else (g:=gc) (by omega) (by omega) 1 (.int .i64 v2);have b_:=(HK2.out.to_below B05.out (by omega) (fun k hk=>by have hk' : k = R:=hk;omega)).setCell (p:=⟨gc,1,none⟩) (by show B ≤ gc;omega) (.int .i64 v2)
 have z_ : (World.setCell w6 ⟨gc,1,none⟩ (.int .i64 v2)).heap.size = w6.heap.size:=by rw [World.size_setCell]
 clear uC fC;generalize World.setCell _ _ _ = w7a at n_ m4_ r_ b_ z_ ⊢;have LC7a:=am n_;have L47a:=am m4_;have HR2z:=am r_;have B07a:=am b_;have SZ7 : Aside0 (w4.heap.size ≤ w7a.heap.size):=⟨by omega⟩;clear n_ m4_ r_ b_ z_ zz_ z3 hl2;obtain ⟨v3,hv3⟩ : ∃ v,v = (rn3 l).1:=⟨_,rfl⟩;have hn3:=rnum_calls B R A2 c2 (rn2 l).2.1 (rn2 l).2.2 w7a HR2z.out;rw [show rnum (rn2 l).2.1 (rn2 l).2.2 = rn3 l from rfl,← hv3] at hn3;have HV3:=am hv3;have HN3:=am hn3;clear hv3 hn3
 go_upto_region 5 with (go_at_call 47;go_loud ((with_reducible refine HN3.out.mono ?_);rintro e w8 ⟨rfl,⟨A3,c3,hr_⟩,hk_⟩;have HR3:=am hr_;have HK3:=am hk_;clear hr_ hk_;have nC_:=LC7a.out.kept HK3.out (by simp [HLC1l.out]) HneC.out;have uC:=nC_.cell (i:=2) (v:= .int .i64 0) (by rw [HLC1.out];rfl);have fC:=nC_.frozen 2 (by simp [HLC1l.out]);clear nC_))
 have hl2:=Hlt.out;have z3:=HK3.out.size
 have zz_ : w4.heap.size ≤ w8.heap.size:=by have:=SZ7.out;omega
 have n_:=(LC7a.out.kept HK3.out (by simp [HLC1l.out]) (by show ¬ gc = R;omega)).set 2 (by simp [HLC1l.out]) (.int .i64 v3);have m4_:=(L47a.out.kept HK3.out (by rw [HZl.out];decide) (by show ¬ g4 = R;omega)).set_far (b:=gc) (by omega) 2 (.int .i64 v3);have r_:=HR3.out.set_else (g:=gc) (by omega) (by omega) 2 (.int .i64 v3);have b_:=(HK3.out.to_below B07a.out (by have:=SZ7.out;omega) (fun k hk=>by have hk' : k = R:=hk;omega)).setCell (p:=⟨gc,2,none⟩) (by show B ≤ gc;omega) (.int .i64 v3)
 have z_ : (World.setCell w8 ⟨gc,2,none⟩ (.int .i64 v3)).heap.size = w8.heap.size:=by rw [World.size_setCell]
 clear uC fC;generalize World.setCell _ _ _ = w9a at n_ m4_ r_ b_ z_ ⊢;have LC9a:=am n_;have L49a:=am m4_;have HR3z:=am r_;have B09a:=am b_;have SZ9 : Aside0 (w4.heap.size ≤ w9a.heap.size):=⟨by omega⟩;clear n_ m4_ r_ b_ z_ zz_ z3 hl2;obtain ⟨n,hn⟩ : ∃ v,v = (rn4 l).1:=⟨_,rfl⟩;have hn4:=rnum_calls B R A3 c3 (rn3 l).2.1 (rn3 l).2.2 w9a HR3z.out;rw [show rnum (rn3 l).2.1 (rn3 l).2.2 = rn4 l from rfl,← hn] at hn4;have Hn:=am hn;have HN4:=am hn4;have Hn0 : Aside0 (0 ≤ n ∧ n ≤ 4611686018427387904):=⟨by rw [hn];exact rnum_range (rnum_bytes (rnum_bytes (rnum_bytes Hby.out _) _) _) _⟩;clear hn hn4
 go_upto_region 6 with (go_at_call 47;go_loud ((with_reducible refine HN4.out.mono ?_);rintro e w10a ⟨rfl,⟨A4,c4,hr_⟩,hk_⟩;have HR4:=am hr_;have HK4:=am hk_;clear hr_ hk_))
 obtain ⟨M,hM⟩ : ∃ M : Nat,M = if d < 3 then min n.toNat 4 else 0:=⟨_,rfl⟩
 obtain ⟨dec,hdec⟩ : ∃ dec : List Int → S25,dec = match f with | 0=>(fun _=>z25) | g + 1=>readF g:=⟨_,rfl⟩
 have hfin : readF f l = ⟨v1,v2,v3,kidsR dec M (rn4 l).2.1 (rn4 l).2.2 []⟩:=by
  rw [hM,hdec,Hn.out,HV1.out,HV2.out,HV3.out]
  cases f with
  | zero=>rw [if_neg (by omega),readF,kidsR]
  | succ g=>rw [if_pos (by omega),readF]
 have hih : d < 3 → (∀ (A : Option Addr) (c : Nat) (l : List Int) (w : World),Kd.C (Kd.int .u8) w A l.length l → l.length ≤ c → IsBytes l → l.length < 140737488355328 →
  Calls Try.prog 50 #[.slice A l.length c,.int .i64 (wrap64 (d + 1))] w fun e w'=>
  (∃ L : List Value,e = .returned (.agg L.toArray) ∧ L.length = 4 ∧ (∀ v ∈ L,v.oneCell' = true) ∧ k25.M w' w.heap.size (fun _=>True) (dec l) L) ∧ Below w.heap.size w w'):=by
  intro h3
  cases f with
  | zero=>omega
  | succ g=>
    have h:=HIH.out g rfl
    have dw : wrap64 (d + 1) = d + 1:=by unfold wrap64;omega
    rw [dw,hdec];exact h
 have HFIN:=am hfin;have HI:=am hih;have HMd : Aside0 (M = if d < 3 then min n.toNat 4 else 0):=⟨hM⟩;obtain ⟨okk,hokk⟩ : ∃ okk : Nat → Prop,okk = fun k=>k ≠ R ∧ k ≠ gc ∧ k ≠ g4:=⟨_,rfl⟩;have Hokk:=am hokk
 have HRe : Aside0 (RdAt B w10a R A4 c4 (rn4 l).2.1 (rn4 l).2.2 ∧ Lies w10a gc [.int .i64 v1,.int .i64 v2,.int .i64 v3,.slice none 0 0] ∧ Lies w10a g4 Z ∧ Below B w w10a ∧ w4.heap.size ≤ w10a.heap.size):=⟨HR4.out,by
  have:=LC9a.out.kept HK4.out (by simp [HLC1l.out]) (by show ¬ gc = R;exact HneC.out);rw [HLC1.out] at this
  exact this,L49a.out.kept HK4.out (by rw [HZl.out];decide) (by have:=Hlt.out;show ¬ g4 = R;omega),HK4.out.to_below B09a.out (by have:=SZ9.out;have:=Hlt.out;omega) (fun k hk=>by have hk' : k = R:=hk;have:=Hlt.out;omega),Nat.le_trans SZ9.out HK4.out.size⟩
 clear hM hdec hfin hih hokk HIH
 go_wp2
 go_loopw [8] (fun i wr=>∃ x : Int,i = .int .i64 x ∧ (0 ≤ x ∧ x ≤ 4) ∧
  Aside0 (∃ A' c' l' e' ks v3',RdAt B wr R A' c' l' e' ∧ Lies wr gc [.int .i64 v1,.int .i64 v2,.int .i64 v3,v3'] ∧ Lies wr g4 Z ∧ k25.R 25 wr B okk v3' ks ∧ ks.length = x.toNat ∧
   kidsR dec (M - x.toNat) l' e' ks = kidsR dec M (rn4 l).2.1 (rn4 l).2.2 []) ∧ Aside0 (Below B w wr) ∧ Aside0 (w4.heap.size ≤ wr.heap.size))
  (fun i _=>4 - (intOf i).toNat)
 case atStart=>exact ⟨0,rfl,⟨by omega,by omega⟩,⟨A4,c4,_,_,[],.slice none 0 0,HRe.out.1,HRe.out.2.1,HRe.out.2.2.1,Kd.R_nil _ _ _ _ _,rfl,by rw [show (0 : Int).toNat = 0 from rfl,Nat.sub_zero]⟩,⟨HRe.out.2.2.2.1⟩,⟨HRe.out.2.2.2.2⟩⟩
 case round=>
 clear HRe;obtain ⟨x,rfl,⟨hx0,hx1⟩,HV,HG,HSZ⟩:=hrel;obtain ⟨A',c',l',e',ks,v3',hRE,hLE,h4E,hRK,hkl,hE⟩:=HV.out;obtain ⟨A3,cc3,hv3,hcc3,_⟩:=Kd.R_reads hRK;subst hv3;have HRE:=am hRE;have HLCE:=am hLE;have H4E:=am h4E;have HRK:=am hRK;have HKL:=am hkl;have Hcc3:=am hcc3;have HE:=am hE;have q1:=hRE.reader.cell (i:=1) (v:= .bool e') rfl;have hn0:=Hn0.out.1;clear hRE hLE h4E hRK hkl hE HV hcc3
 by_cases hgo : x < n ∧ e' = false ∧ x < 4 ∧ d < 3
 rotate_left
 ·have hex : M - x.toNat = 0 ∨ e' = true:=by
   have hMv:=HMd.out
   cases e' with
   | true=>exact .inr rfl
   | false=>
     left
     by_cases h3 : d < 3
     rotate_left
     ·rw [if_neg h3] at hMv;omega
     rw [if_pos h3] at hMv;have : ¬ (x < n ∧ x < 4):=fun h=>hgo ⟨h.1,rfl,h.2,h3⟩
     omega
  have hks : kidsR dec M (rn4 l).2.1 (rn4 l).2.2 [] = ks:=by rw [← HE.out];exact kidsR_end dec _ _ _ _ hex
  have hfin2 : readF f l = ⟨v1,v2,v3,ks⟩:=by rw [HFIN.out,hks]
  have HF2:=am hfin2;obtain ⟨LC,hLC⟩ : ∃ LC : List Value,LC = [.int .i64 v1,.int .i64 v2,.int .i64 v3,.slice A3 ks.length cc3]:=⟨_,rfl⟩;have HLCl : Aside0 (LC.length = 4):=⟨by rw [hLC];rfl⟩;have HLCo : Aside0 (∀ v ∈ LC,v.oneCell' = true):=⟨by rw [hLC];intro v hv;simp at hv;rcases hv with rfl | rfl | rfl | rfl <;> rfl⟩;have HLEe : Aside0 (Lies wr gc LC):=⟨by rw [hLC];exact HLCE.out⟩;have HLC:=am hLC;have hw : ∀ W,W = wr → True:=fun _ _=>trivial;clear hex hks hfin2 hLC hw
  have hcase : (decide (x < n) = false) ∨ (decide (x < n) = true ∧ e' = true) ∨ (decide (x < n) = true ∧ e' = false ∧ decide (x < 4) = false) ∨ (decide (x < n) = true ∧ e' = false ∧ decide (x < 4) = true ∧ decide (d < 3) = false):=by
   by_cases h1 : x < n
   rotate_left
   ·exact .inl (decide_eq_false h1)
   cases e' with
   | true=>exact .inr (.inl ⟨decide_eq_true h1,rfl⟩)
   | false=>
     by_cases h2 : x < 4
     rotate_left
     ·exact .inr (.inr (.inl ⟨decide_eq_true h1,rfl,decide_eq_false h2⟩))
     by_cases h3 : d < 3
     ·exact absurd ⟨h1,rfl,h2,h3⟩ hgo
     exact .inr (.inr (.inr ⟨decide_eq_true h1,rfl,decide_eq_true h2,decide_eq_false h3⟩))
  clear hgo
  rcases hcase with d1 | ⟨d1,rfl⟩ | ⟨d1,rfl,d2⟩ | ⟨d1,rfl,d2,d3⟩
  all_goals (
   go_wp2_with (first
    | ((with_reducible refine gate_dst (N:=53) rfl ?_);refine wpList_load_mid rfl 25 _ rfl gc 0 rfl LC _ HLEe.out.range Try.underlying25 rfl (by rw [HLCl.out];exact info_call) ?_)
    | ((with_reducible refine gate_store (t:=25) (p:=4) rfl ?_);refine wpList_store_mid rfl 25 _ _ rfl g4 0 LC.toArray rfl rfl (by rw [List.size_toArray,HLCl.out];exact H4E.out.part_there 0 4 (by rw [HZl.out];decide)) (by rw [List.size_toArray,HLCl.out];exact info_call) (all_oneCell_toArray HLCo.out) ?_))
   have BR:=World.rangeAt_setCells_same wr g4 0 LC (by rw [HLCl.out];exact H4E.out.part_there 0 4 (by rw [HZl.out];decide));have hres:=run_loadVar_mid (P:=Try.prog) (wr.setCells g4 0 LC) g4 0 25 LC _ BR Try.underlying25 rfl (by rw [HLCl.out];exact info_call);refine bodyPost_ret (results_cellR rfl _ rfl hres) rfl ?_;refine ⟨⟨LC,rfl,HLCl.out,HLCo.out,?_⟩,below_setCells' g4 (by have:=Hlt.out;omega) LC 0 wr HG.out⟩;have hk : k25.R 25 (wr.setCells g4 0 LC) B (fun _=>True) (.slice A3 ks.length cc3) ks:=Kd.R_mono (Kd.R_step HRK.out (fun k ho hl=>(kept_setCells g4 0 LC wr).block k hl (by show ¬ k = g4;rw [Hokk.out] at ho;exact ho.2.2))) (fun _ _=>trivial);rw [HF2.out,HLC.out];rw [HLC.out] at hk
   exact k25_mkM _ _ _ ⟨v1,v2,v3,ks⟩ hk)
 obtain ⟨h1,rfl,h2,h3⟩:=hgo;have d1 : decide (x < n) = true:=decide_eq_true h1;have d2 : decide (x < 4) = true:=decide_eq_true h2;have d3 : decide (d < 3) = true:=decide_eq_true h3
 have xw : wrap64 (x + 1) = x + 1:=by unfold wrap64;omega
 obtain ⟨p,hp⟩ : ∃ p,(rrow l' false).1 = p:=⟨_,rfl⟩;obtain ⟨l2,hl2⟩ : ∃ q,(rrow l' false).2.1 = q:=⟨_,rfl⟩;obtain ⟨e2,he2⟩ : ∃ q,(rrow l' false).2.2 = q:=⟨_,rfl⟩;obtain ⟨kx,hkx⟩ : ∃ r,dec p = r:=⟨_,rfl⟩;have hrow:=rrow_calls B R A' c' l' false wr.drew HRE.out.drew;rw [hp,hl2,he2] at hrow;have HROW:=am hrow;have hps:=rrow_bytes HRE.out.bytes false;rw [hp] at hps;have hsh':=HRE.out.short;have HPB : Aside0 (IsBytes p ∧ p.length < 140737488355328):=⟨hps.2.1,by omega⟩
 have hstep : kidsR dec (M - (x + 1).toNat) l2 e2 (ks ++ [kx]) = kidsR dec M (rn4 l).2.1 (rn4 l).2.2 []:=by
  rw [← HE.out];have hMv:=HMd.out;rw [if_pos h3] at hMv;rw [show M - x.toNat = (M - (x + 1).toNat) + 1 by omega,kidsR,if_neg (by decide),hp,hl2,he2,hkx]
 have HNX:=am hstep;have HKX:=am hkx;have HIW:=am (HI.out h3)
 have hBw : B ≤ wr.heap.size:=by have:=HG.out.size;have:=HBe.out;omega
 have HBw:=am hBw;have r3 : wr.drew.cell? ⟨gc,3,none⟩ = some (.slice A3 ks.length cc3):=HLCE.out.drew.cell (i:=3) rfl;have HKL4 : Aside0 (ks.length ≤ 4):=⟨by have:=HKL.out;omega⟩;have R3:=am r3;clear hrow hps hsh' hstep hkx hBw hp hl2 he2 r3
 go_upto_region 9 with (fail)
 clear q1;have r3:=R3.out;refine start_ (n:=11) (S:=fun w'=>w'.cell? ⟨gc,3,none⟩ = some (.slice A3 ks.length cc3)) (ds:=[10]) (bl 11 0) (by kernel_rfl) rfl rfl r3 (fun hHeld=>?_);refine with_tabW refread_r9.tab refread_r9.bits (fun HT_ HW_=>?_);refine p_ HT_ 0 (some 43) refread_r9.l0 ?_;refine tk HT_ HW_ hHeld 1 (some 44) refread_r9.l1 (hr:=by intro w' hs_;have s0:=hs_;go_simp;with_reducible rfl) (h:=?_);refine p_ HT_ 2 (some 45) refread_r9.l2 ?_;refine p_ HT_ 4 (some 47) refread_r9.l3 ?_;refine p_ HT_ 5 (some 48) refread_r9.l4 ?_;refine o_ HT_ 3 (some 46) refread_r9.l5 fun K hK=>?_;refine gs Try.func49 #[.pointer (some ⟨R,0,none⟩)] ?_;refine (HROW.out).mono ?_;rintro e w7 ⟨⟨A1,c1,rfl,hc1_,hC1_,hf1_⟩,⟨A2,c2,hr2_⟩,hk_⟩;refine ⟨_,rfl,?_⟩;have HC1:=am hc1_;have HCP:=am hC1_;have HR7:=am hr2_;have HK7:=am hk_;have LC7:=am (HLCE.out.drew.kept hk_ (by simp) HneC.out);clear hc1_ hC1_ hf1_ hr2_ hk_;refine hK.out _ _ (LC7.out.cell (i:=3) rfl) (fun hHeld=>?_);clear hK K;refine nm (some 46) ?_;refine o_ HT_ 6 (some 49) refread_r9.l6 fun K hK=>?_;refine gs Try.func50 #[.slice A1 p.length c1,.int .i64 (wrap64 (d + 1))] ?_;refine (HIW.out A1 c1 p w7 HCP.out HC1.out HPB.out.1 HPB.out.2).mono ?_;rintro e w9 ⟨⟨LK,rfl,hl_,ho_,hm_⟩,hb_⟩;refine ⟨_,rfl,?_⟩;rw [HKX.out] at hm_;obtain ⟨A6,c6,hL_,hc6_,hC6_⟩:=k25_open (k25.K_of_M hm_);subst hL_;have HMK:=am hm_;have B9:=am hb_;have LC9:=am (LC7.out.below hb_ (LC7.out.lt (by simp)));clear hl_ ho_ hm_ hb_ hc6_ hC6_;refine hK.out _ _ (LC9.out.cell (i:=3) rfl) (fun hHeld=>?_);clear hK K;refine nm (some 49) ?_;refine o_ HT_ 7 (some 50) refread_r9.l7 fun K hK=>?_;refine value_ (v:= .slice (some ⟨w9.heap.size,0,none⟩) 1 1) (w1:=w9.alloc (.cells [Value.int .i64 kx.f0,.int .i64 kx.f1,.int .i64 kx.f2,.slice A6 kx.f3.length c6].toArray 25)) (by rfl) rfl ?_ ?_
 ·go_simp
  try rfl
 refine hK.out _ _ ((LC9.out.below (below_alloc (Below.refl _ _) _) (LC9.out.lt (by simp))).cell (i:=3) rfl) (fun hHeld=>?_);clear hK K;refine nm (some 50) ?_
 have hap : k25.M w9 B (fun k=>w7.heap.size ≤ k ∧ k < w9.heap.size) kx [Value.int .i64 kx.f0,.int .i64 kx.f1,.int .i64 kx.f2,.slice A6 kx.f3.length c6] ∧
  (∀ k,(w7.heap.size ≤ k ∧ k < w9.heap.size) → okk k ∧ some k ≠ (Value.slice A3 ks.length cc3).ownBlock) ∧ (∀ k,w9.heap.size ≤ k → okk k) ∧ k25.R 25 w9 B okk (.slice A3 ks.length cc3) ks ∧ Below B w w9 ∧ B ≤ w9.heap.size:=by
  have z7:=HK7.out.size;have z9:=B9.out.size;have bw:=HBw.out;have hl:=Hlt.out;have sz:=HSZ.out;have z0 : wr.drew.heap.size = wr.heap.size:=rfl;have rk7 : k25.R 25 w7 B okk (.slice A3 ks.length cc3) ks:=Kd.R_step (Kd.R_step HRK.out (fun k _ _=>rfl)) (fun k ho hlt=>HK7.out.block k hlt (by rw [Hokk.out] at ho;exact ho.1));have own7 : ∀ k,(Value.slice A3 ks.length cc3).ownBlock = some k → k < w7.heap.size:=fun k hk=>(Kd.R_bound rk7).1 k hk |>.2.2.1;refine ⟨k25.M_lower (by omega) (k25.M_mono (fun k h=>⟨h.2.1,h.2.2.1⟩) (k25.M_bound HMK.out)),fun k hk=>⟨?_,fun e=>?_⟩,fun k hk=>?_,Kd.R_below rk7 B9.out,(HK7.out.to_below (below_drew HG.out) (by omega) (fun k hk=>by have hk' : k = R:=hk;omega)).trans (B9.out.mono (by omega)),by omega⟩
  ·rw [Hokk.out];exact ⟨by omega,by omega,by omega⟩
  ·have:=own7 k e.symm;omega
  ·rw [Hokk.out];exact ⟨by omega,by omega,by omega⟩
 have hno : ¬ some gc = (Value.slice A3 ks.length cc3).ownBlock:=fun e=>by
  have h1:=HRK.out.1 gc e.symm;rw [Hokk.out] at h1;exact h1.2.1 rfl
 have HAP:=am hap;have HneO : Aside0 (¬ some gc = (Value.slice A3 ks.length cc3).ownBlock):=⟨hno⟩;clear hap hno;refine o_ HT_ 8 (some 51) refread_r9.l8 fun K hK=>?_;refine Kd.R_append_step k25 (w0:=w) B (by rfl) (.tmp 44) (.tmp 50) 23 25 (.agg zeroC.toArray) 48 rfl Try.underlying23 info_callz rfl (by decide) (by decide) (.slice A3 ks.length cc3) ks kx [Value.int .i64 kx.f0,.int .i64 kx.f1,.int .i64 kx.f2,.slice A6 kx.f3.length c6] okk (fun k=>w7.heap.size ≤ k ∧ k < w9.heap.size) rfl rfl (HAP.out.1) (HAP.out.2.1) (HAP.out.2.2.1) (HAP.out.2.2.2.1) (HAP.out.2.2.2.2.1) HAP.out.2.2.2.2.2 (by have:=HKL4.out;omega) ?_;intro va w11 hR_ hb_ hg_ hat_;clear hat_;obtain ⟨bv,cap,hv_,hcap_⟩:=R_shape hR_ (by simp) (by decide);subst hv_;clear hcap_;rw [List.length_append,show ([kx] : List S25).length = 1 from rfl] at hR_ ⊢;have HR11:=am hR_;have HB11:=am hb_;have HG11:=am hg_;have LC11:=am (LC9.out.kept (Kept.of_grown hg_) (by simp) HneO.out);clear hR_ hb_ hg_;refine hK.out _ _ (LC11.out.cell (i:=3) rfl) (fun hHeld=>?_);clear hK K;refine nm (some 51) ?_;refine p_ HT_ 9 (some 52) refread_r9.l9 ?_;have q3:=LC11.out.frozen 3 (by simp);refine last_ (i:=10) (N:=none) refread_r9.l10 rfl rfl (one_of HT_.out (by kernel_rfl)) (by decide) (fun K hK=>?_);refine skip_ (w1:=w11.setCell ⟨gc,3,none⟩ (.slice (some ⟨bv,0,none⟩) (ks.length + 1) cap)) (by rfl) rfl ?_ ?_
 ·go_simp
 refine hK.out _ _ ?_;clear hK K;refine done_ (done_of HT_.out (by kernel_rfl)) ?_;clear HT_ HW_ q3;have hg11:=HG11.out;have hkg:=Kept.of_grown hg11;have hnb : ∀ k,some k = (Value.slice A3 ks.length cc3).ownBlock → okk k ∧ B ≤ k:=fun k e=>⟨HRK.out.1 k e.symm,Kd.R_base HRK.out k e.symm⟩;have f1 : RdAt B w11 R A2 c2 l2 e2:=(HR7.out.below B9.out).kept hkg (fun k e=>(hnb k e).2) (fun e=>by have:=(hnb R e).1;rw [Hokk.out] at this;exact this.1 rfl);have f2 : Lies w11 g4 Z:=((((H4E.out.drew).kept HK7.out (by rw [HZl.out];decide) (by have:=Hlt.out;show ¬ g4 = R;omega)).below B9.out (by have:=HK7.out.size;have:=Hlt.out;have:=HSZ.out;have z0 : wr.drew.heap.size = wr.heap.size:=rfl;omega))).kept hkg (by rw [HZl.out];decide) (fun e=>by have:=(hnb g4 e).1;rw [Hokk.out] at this;exact this.2.2 rfl);have f3:=f1.set_else (g:=gc) (by have:=Hlt.out;omega) (by have:=Hlt.out;omega) 3 (.slice (some ⟨bv,0,none⟩) (ks.length + 1) cap);have f4:=f2.set_far (b:=gc) (by have:=Hlt.out;omega) 3 (.slice (some ⟨bv,0,none⟩) (ks.length + 1) cap);have f5:=LC11.out.set 3 (by simp) (.slice (some ⟨bv,0,none⟩) (ks.length + 1) cap);have f6 : k25.R 25 (w11.setCell ⟨gc,3,none⟩ (.slice (some ⟨bv,0,none⟩) (ks.length + 1) cap)) B okk (.slice (some ⟨bv,0,none⟩) (ks.length + 1) cap) (ks ++ [kx]):=Kd.R_far HR11.out (p:=⟨gc,3,none⟩) (fun k h=>by rw [Hokk.out] at h;exact h.2.1) _;have f7:=HB11.out.setCell (p:=⟨gc,3,none⟩) (by show B ≤ gc;have:=Hlt.out;omega) (.slice (some ⟨bv,0,none⟩) (ks.length + 1) cap)
 have f8 : w4.heap.size ≤ (w11.setCell ⟨gc,3,none⟩ (.slice (some ⟨bv,0,none⟩) (ks.length + 1) cap)).heap.size:=by rw [World.size_setCell];exact Nat.le_trans (Nat.le_trans HSZ.out (Nat.le_trans HK7.out.size B9.out.size)) hg11.size
 generalize World.setCell _ _ _ = wz at f3 f4 f5 f6 f7 f8 ⊢;have F3:=am f3;have F4:=am f4;have F5:=am f5;have F6:=am f6;have F7:=am f7;have F8:=am f8;clear f1 f2 f3 f4 f5 f6 f7 f8 hkg hg11 hnb
 go_wp2
 exact ⟨⟨x + 1,by first | rfl | (rw [xw]) | (simp [xw]),⟨by omega,by omega⟩,⟨A2,c2,l2,e2,ks ++ [kx],.slice (some ⟨bv,0,none⟩) (ks.length + 1) cap,F3.out,F5.out,F4.out,F6.out,by rw [List.length_append];have:=HKL.out;have e1 : ([kx] : List S25).length = 1:=rfl;omega,HNX.out⟩,F7,F8⟩,by simp [intOf];omega⟩
theorem reads_at : ∀ (f : Nat) (d : Int),d + f = 3 → 0 ≤ d → ReadsAt f d
 | 0,d,h,h0=>read_step 0 d h h0 (fun g e=>by cases e)
 | f + 1,d,h,h0=>read_step (f + 1) d h h0 (fun g e=>by cases e;exact reads_at f (d + 1) (by omega) (by omega))
end Go.Proofs.Ytilckocpgififaa.G
/- Bytes as an extrinsic, plainly, as the reference reads them: the answer is the code's. -/
namespace Go.Proofs.Ytilckocpgififaa.G
open Go.Extern.Stop (cell)
open Go.RowKit Go.Shelf Go.Proofs.YtilckocpgififaaW.PrintWords Go.Proofs.YtilckocpgififaaW.PrintMore Go.Proofs.Ytilckocpgififaa.PNum
set_option linter.unusedVariables false
set_option linter.unusedSimpArgs false
def rst (l : List Int) (e : Bool) : Nat → Int × List Int × Bool
 | 0=>(0,l,e)
 | k + 1=>rnum (rst l e k).2.1 (rst l e k).2.2
theorem rst_bytes {l : List Int} (hl : IsBytes l) (e : Bool) : ∀ k,IsBytes (rst l e k).2.1
 | 0=>hl
 | k + 1=>rnum_bytes (rst_bytes hl e k) _
theorem rst_put : ∀ (ns : List Int) (t : List Int),(∀ n ∈ ns,Small n) → ∀ k,k ≤ ns.length → (rst (numsB ns ++ t) false k).2 = (numsB (ns.drop k) ++ t,false) ∧ ∀ j,k = j + 1 → (rst (numsB ns ++ t) false k).1 = ns.getD j 0:=by
 intro ns t h k
 induction k with
 | zero=>intro _;exact ⟨rfl,fun j e=>by cases e⟩
 | succ k ih=>
   intro hk;obtain ⟨h1,_⟩:=ih (by omega)
   have hlt : k < ns.length:=by omega
   have e : numsB (ns.drop k) ++ t = numB ns[k] ++ (numsB (ns.drop (k + 1)) ++ t):=by rw [List.drop_eq_getElem_cons hlt];unfold numsB;rw [List.flatMap_cons,List.append_assoc]
   have hr : rst (numsB ns ++ t) false (k + 1) = (ns[k],numsB (ns.drop (k + 1)) ++ t,false):=by
    rw [rst,h1]
    dsimp only
    rw [e,rnum_put (h _ (List.getElem_mem hlt))]
   rw [hr];refine ⟨rfl,fun j e=>?_⟩
   obtain rfl : k = j:=by omega
   simp [hlt]
theorem rst_all {ns : List Int} {t : List Int} (h : ∀ n ∈ ns,Small n) : (rst (numsB ns ++ t) false ns.length).2 = (t,false):=by
 have:=(rst_put ns t h ns.length (Nat.le_refl _)).1;rw [List.drop_length] at this;exact this
def rH (l : List Int) : List Int:=[(rst l false 1).1,(rst l false 2).1,(rst l false 3).1,(rst l false 4).1,(rst l false 5).1,(rst l false 6).1,(rst l false 7).1]
def rS (l : List Int) : List Int × List Int × Bool:=rraw 32 (rst l false 7).2.1 (rst l false 7).2.2
def rV (l : List Int) (k : Nat) : Int × List Int × Bool:=rst (rS l).2.1 (rS l).2.2 k
def rVs (l : List Int) : List Int:=[(rV l 1).1,(rV l 2).1,(rV l 3).1,(rV l 4).1,(rV l 5).1,(rV l 6).1]
def rC (l : List Int) : List Int × List Int × Bool:=rrow (rV l 6).2.1 (rV l 6).2.2
def fillS (s : List Int) : List Int:=s ++ List.replicate (32 - s.length) 0
def rawR (l : List Int) : RawE:=⟨rH l,fillS (rS l).1,rVs l,(rC l).1⟩
def callR (p : List Int) : S25:=if p.length > 0 then readF 3 p else z25
def readE (l : List Int) : Ext:=toE (rawR l) (callR (rC l).1)
theorem rS_length (l : List Int) : (rS l).1.length = 32 ∨ (rS l).1 = []:=by
 unfold rS rraw
 split
 ·exact .inr rfl
 ·rename_i h
  left
  simp only [Bool.or_eq_true,decide_eq_true_eq,not_or] at h;rw [List.length_take];omega
theorem rS_bytes {l : List Int} (hl : IsBytes l) : IsBytes (rS l).1 ∧ IsBytes (rS l).2.1:=by
 unfold rS rraw
 split
 ·exact ⟨fun c hc=>(by cases hc),rst_bytes hl _ _⟩
 ·exact ⟨(rst_bytes hl _ _).take _,(rst_bytes hl _ _).drop _⟩
theorem fillS_length {s : List Int} (h : s.length ≤ 32) : (fillS s).length = 32:=by unfold fillS;rw [List.length_append,List.length_replicate];omega
theorem fillS_bytes {s : List Int} (h : IsBytes s) : IsBytes (fillS s):=by
 refine h.append (fun c hc=>?_);rw [List.mem_replicate] at hc
 omega
theorem fillS_full {s : List Int} (h : s.length = 32) : fillS s = s:=by unfold fillS;rw [h];simp
theorem rC_bytes {l : List Int} (hl : IsBytes l) : IsBytes (rC l).1:=(rrow_bytes (rst_bytes (rS_bytes hl).2 _ _) _).2.1
theorem rst_len : ∀ (l : List Int) (e : Bool) (k : Nat),(rst l e k).2.1.length ≤ l.length
 | l,e,0=>Nat.le_refl _
 | l,e,k + 1=>by
   have h:=rst_len l e k
   show (rnum (rst l e k).2.1 (rst l e k).2.2).2.1.length ≤ _
   unfold rnum
   split
   ·exact h
   ·unfold restT
    rw [List.length_drop];omega
theorem rC_le {l : List Int} (hl : IsBytes l) : (rC l).1.length ≤ l.length:=by
 have h1:=(rrow_bytes (rst_bytes (rS_bytes hl).2 (rS l).2.2 6) (rV l 6).2.2).2.2;have h2:=rst_len (rS l).2.1 (rS l).2.2 6
 have h3 : (rS l).2.1.length ≤ (rst l false 7).2.1.length:=by
  unfold rS rraw
  split
  ·exact Nat.le_refl _
  ·rw [List.length_drop];omega
 have h4:=rst_len l false 7;exact Nat.le_trans h1 (Nat.le_trans h2 (Nat.le_trans h3 h4))
theorem readE_sum (l : List Int) : (readE l).sum.length = 32:=by
 show (bytesU (fillS (rS l).1)).length = 32
 have : (fillS (rS l).1).length = 32:=fillS_length (by rcases rS_length l with h | h <;> rw [h] <;> decide);rw [← this];exact List.length_map ..
theorem readE_put {x : Ext} (h : isExtP x = true) (hx : x.sum.length = 32) : readE (encE x) = x:=by
 obtain ⟨l,hl⟩ : ∃ l,encE x = l:=⟨_,rfl⟩;have e : l = numsB (headE x) ++ (sumI x.sum ++ (numsB (voteE x) ++ rowB (callB x))):=hl.symm
 have hs : (sumI x.sum).length = 32:=by rw [sumI_length,hx]
 have hp:=fun k (hk : k ≤ 7)=>(rst_put (headE x) (sumI x.sum ++ (numsB (voteE x) ++ rowB (callB x))) (isExt_head h) k hk).2;have h7:=rst_all (t:=sumI x.sum ++ (numsB (voteE x) ++ rowB (callB x))) (isExt_head h);rw [show (headE x).length = 7 from rfl,← e] at h7;rw [← e] at hp
 have k1 : rH l = headE x:=by
  unfold rH
  rw [hp 1 (by decide) 0 rfl,hp 2 (by decide) 1 rfl,hp 3 (by decide) 2 rfl,hp 4 (by decide) 3 rfl,hp 5 (by decide) 4 rfl,hp 6 (by decide) 5 rfl,hp 7 (by decide) 6 rfl]
  rfl
 have k2 : rS l = (sumI x.sum,numsB (voteE x) ++ rowB (callB x),false):=by
  unfold rS rraw
  rw [h7]
  dsimp only
  rw [if_neg (by simp [List.length_append];omega),List.take_left' hs,List.drop_left' hs]
 have hq:=fun k (hk : k ≤ 6)=>(rst_put (voteE x) (rowB (callB x)) (isExt_vote h) k hk).2;have h6:=rst_all (t:=rowB (callB x)) (isExt_vote h);rw [show (voteE x).length = 6 from rfl] at h6
 have k3 : ∀ k,rV l k = rst (numsB (voteE x) ++ rowB (callB x)) false k:=fun k=>by unfold rV;rw [k2]
 have k4 : rVs l = voteE x:=by
  unfold rVs
  simp only [k3];rw [hq 1 (by decide) 0 rfl,hq 2 (by decide) 1 rfl,hq 3 (by decide) 2 rfl,hq 4 (by decide) 3 rfl,hq 5 (by decide) 4 rfl,hq 6 (by decide) 5 rfl]
  rfl
 have k5 : rC l = (callB x,[],false):=by
  unfold rC
  rw [k3,h6];have:=rrow_put (callB x) [] (callB_le h);rwa [List.append_nil] at this
 have k6 : callR (callB x) = x.call:=by
  unfold callR callB
  rcases isExt_call h with h1 | h1
  ·rw [if_neg (okT_nonzero h1),if_pos (encC_ne h1),read_put 3 _ (by decide) h1]
  ·have e0 : x.call.f0 = 0:=by rw [h1];rfl
   rw [if_pos e0,if_neg (by simp),h1]
 rw [hl]
 unfold readE rawR
 rw [k1,k2,k4,k5,fillS_full hs,k6];exact toE_put
theorem list7 {r : List Int} (h : r.length = 7) : [at0 r 0,at0 r 1,at0 r 2,at0 r 3,at0 r 4,at0 r 5,at0 r 6] = r:=by
 match r,h with
 | [a,b,c,d,e,f,g],_=>rfl
theorem list6 {r : List Int} (h : r.length = 6) : [at0 r 0,at0 r 1,at0 r 2,at0 r 3,at0 r 4,at0 r 5] = r:=by
 match r,h with
 | [a,b,c,d,e,f],_=>rfl
theorem decE_tells {l : List Int} {x : Ext} (hl : IsBytes l) (h : decE l = some x) : l = encE x ∧ isExtP x = true ∧ x.sum.length = 32:=by
 unfold decE at h
 by_cases ho : okR (partsE l).1 (partsE l).2 = true
 rotate_left
 ·rw [if_neg ho] at h;cases h
 rw [if_pos ho] at h
 unfold okR at ho
 simp only [Bool.and_eq_true,decide_eq_true_eq] at ho;obtain ⟨e,h32,hbs,hbr,s1,s2⟩:=parts_tells hl ho.1;have l7 : (partsE l).1.head.length = 7:=numsP_length 7 l;have l6 : (partsE l).1.vote.length = 6:=numsP_length 6 _;have hv5:=ho.2;generalize (partsE l).1 = r at *
 cases hc : callD r.row with
 | none=>rw [hc] at h;cases h
 | some c=>
   rw [hc] at h
   dsimp only at h
   by_cases hi : isExtP (toE r c) = true
   rotate_left
   ·rw [if_neg hi] at h;cases h
   rw [if_pos hi] at h
   injection h with h
   subst h;refine ⟨?_,hi,by show (bytesU r.sum).length = 32;rw [← h32];exact List.length_map ..⟩;have k1 : headE (toE r c) = r.head:=list7 l7;have k2 : sumI (toE r c).sum = r.sum:=sumI_bytesU hbs
   have k3 : voteE (toE r c) = r.vote:=by
    have h5 : 0 ≤ at0 r.vote 5:=by
     have : at0 r.vote 5 ∈ r.vote:=by
      unfold at0
      rw [List.getD_eq_getElem?_getD,List.getElem?_eq_getElem (by omega)];exact List.getElem_mem _
     exact (s2 _ this).1
    have : flagI (decide (at0 r.vote 5 = 1)) = at0 r.vote 5:=by
     unfold flagI
     by_cases h1 : at0 r.vote 5 = 1
     ·rw [decide_eq_true h1,if_pos rfl,h1]
     rw [decide_eq_false h1,if_neg (by decide)];omega
    show [at0 r.vote 0,at0 r.vote 1,at0 r.vote 2,at0 r.vote 3,at0 r.vote 4,flagI (decide (at0 r.vote 5 = 1))] = r.vote
    rw [this];exact list6 l6
   have k4 : callB (toE r c) = r.row:=by
    show (if c.f0 = 0 then [] else encC 3 c) = r.row
    unfold callD at hc
    by_cases hp : r.row.length > 0
    rotate_left
    ·rw [if_neg hp] at hc
     injection hc with hc
     subst hc;rw [if_pos (show (z25).f0 = 0 from rfl)];exact (List.eq_nil_of_length_eq_zero (by omega)).symm
    rw [if_pos hp] at hc
    unfold decF at hc
    cases ht : takenF 4 r.row with
    | none=>rw [ht] at hc;cases hc
    | some d=>
      rw [ht] at hc;have hc' : (if okT 3 d = true then some d else none) = some c:=hc
      by_cases hd : okT 3 d = true
      rotate_left
      ·rw [if_neg hd] at hc';cases hc'
      rw [if_pos hd] at hc'
      injection hc' with hc'
      subst hc';rw [if_neg (okT_nonzero hd)];exact (taken_tells 3 _ _ hbr ht).symm
   unfold encE
   rw [k1,k2,k3,k4];exact e
theorem decE_read {l : List Int} (hl : IsBytes l) : decE l = if isExtP (readE l) = true ∧ encE (readE l) = l then some (readE l) else none:=by
 by_cases h : isExtP (readE l) = true ∧ encE (readE l) = l
 ·rw [if_pos h];have:=decE_put h.1 (readE_sum l);rwa [h.2] at this
 rw [if_neg h]
 cases e : decE l with
 | none=>rfl
 | some x=>
   exfalso
   obtain ⟨h1,h2,h3⟩:=decE_tells hl e;have:=readE_put h2 h3;rw [← h1] at this;rw [this] at h;exact h ⟨h2,h1.symm⟩
/-! ### cells -/
theorem cells0_fill (h s v : List Int) (hs : s.length = 32 ∨ s = []) : cells0 h s v = cells0 h (fillS s) v:=by
 rcases hs with hs | rfl
 ·rw [fillS_full hs]
 ·unfold cells0 setH
  have hz : zeroE = [Value.int .i64 0,.int .i64 0,.int .i64 0,.int .i64 0,.int .i64 0,.int .i64 0,.int .i64 0] ++ (u8s (fillS []) ++ [Value.int .i64 0,.bool false,.int .i64 0,.int .i64 0,.int .i64 0,.int .i64 0,.int .i64 0,.int .i64 0,.int .i64 0,.slice none 0 0]):=rfl;rw [hz]
  rfl
theorem cells1_call {r : RawE} (hs : r.sum.length = 32) (hb : IsBytes r.sum) (c : S25) (A : Option Addr) (n : Nat) :
 ((cells0 r.head r.sum r.vote).set 40 (.bool (decide (at0 r.vote 5 = 1)))).take 45 ++ [Value.int .i64 c.f0,.int .i64 c.f1,.int .i64 c.f2,.slice A c.f3.length n] = (toE r c).cells A n:=by
 rw [← cells0_call hs hb c A n];have hl:=cells0_length r.head r.sum r.vote (by omega);rw [List.set_append_left _ _ (by rw [List.length_take,hl];decide),List.take_set]
theorem cells1_none {r : RawE} (hs : r.sum.length = 32) (hb : IsBytes r.sum) : (cells0 r.head r.sum r.vote).set 40 (.bool (decide (at0 r.vote 5 = 1))) = (toE r z25).cells none 0:=by
 have h1:=cells0_call hs hb z25 none 0;rw [← h1]
 congr 1
 exact (cells0_none hs).symm
end Go.Proofs.Ytilckocpgififaa.G
-- Laid by this session's own program gprint.py over the kit's print (given functions are proved by hand).
namespace Go.Proofs.Ytilckocpgififaa.G
open Go.RowKit Go.Proofs.YtilckocpgififaaW.PrintWords Go.Proofs.YtilckocpgififaaW.PrintLast Go.Proofs.YtilckocpgififaaW.PrintMore
attribute [local go_sem] max2_int min2_int max_two min_two max_three min_three max_four min_four   -- for this text's walks alone
set_option linter.unusedVariables false
set_option linter.unusedSimpArgs false
/-! ### althingref7_raw: function 42 -/
mutual
def althingref7_raw.l0 : Nat → List Int → Int → Int → Int → Int → List (S25) → Option (List Int)
 | 0,_,_,_,_,_,_=>none
 | k + 1,x3,x4,x290000,x290001,x290002,x290003=>if x4 < (x290003.length : Int) then (if 0 ≤ x4 then ((althingref7_raw.f k ((rd_T25 x290003 x4).f0) ((rd_T25 x290003 x4).f1) ((rd_T25 x290003 x4).f2) ((rd_T25 x290003 x4).f3)).bind fun t297=>((althingref1_Row.f k t297).bind fun t300=>(if x3.length + t300.length < 140737488355328 then (althingref7_raw.l0 k (x3 ++ t300) (wrap64 (x4 + 1)) x290000 x290001 x290002 x290003) else (none)))) else (none)) else (some x3)
def althingref7_raw.f : Nat → Int → Int → Int → List (S25) → Option (List Int)
 | 0,_,_,_,_=>none
 | k + 1,a0_0,a0_1,a0_2,l0_3=>(althingref1_Nums.f k (([a0_0,a0_1,a0_2,(l0_3.length : Int)] : List Int))).bind fun t293=>(althingref7_raw.l0 k t293 0 a0_0 a0_1 a0_2 l0_3)
end
set_option maxHeartbeats 8000000 in
set_option maxRecDepth 100000 in
theorem althingref7_raw.calls (k : Nat) : ∀ (a0_0 : Int) (a0_1 : Int) (a0_2 : Int) (A0_3 : Option Addr) (c0_3 : Nat) (l0_3 : List (S25)) (r : List Int) (w : World) (hr0_3 : Kd.C k25 w A0_3 l0_3.length l0_3) (hc0_3 : l0_3.length ≤ c0_3) (h : althingref7_raw.f k a0_0 a0_1 a0_2 l0_3 = some r),
 Calls Try.prog 42 #[.agg #[.int .i64 a0_0,.int .i64 a0_1,.int .i64 a0_2,.slice A0_3 l0_3.length c0_3]] w fun e w'=>∃ v0_ : Value,e = .returned (v0_) ∧ Kd.R (Kd.int .u8) 5 w' w.heap.size (fun _=>True) v0_ r ∧ Below w.heap.size w w':=by
 induction k using Nat.strongRecOn with
 | _ k ih=>
 intro a0_0 a0_1 a0_2 A0_3 c0_3 l0_3 r w hr0_3 hc0_3 h
 cases k with
 | zero=>exact absurd h (by simp [althingref7_raw.f])
 | succ k=>
 simp only [althingref7_raw.f] at h;have hu25:=Try.underlying25;have HR0_3:=am hr0_3;have HC0_3:=am hc0_3;clear hr0_3 hc0_3;have HB:=am (Below.refl w.heap.size w);have H : ((althingref1_Nums.f k (([a0_0,a0_1,a0_2,(l0_3.length : Int)] : List Int))).bind fun t293=>(althingref7_raw.l0 k t293 0 a0_0 a0_1 a0_2 l0_3)) = some r:=h;clear h;obtain ⟨y290,hy290⟩ : ∃ y_ : List Int,y_ = (([a0_0,a0_1,a0_2,(l0_3.length : Int)] : List Int)):=⟨_,rfl⟩
 replace H : ((althingref1_Nums.f k y290).bind fun t293=>(althingref7_raw.l0 k t293 0 a0_0 a0_1 a0_2 l0_3)) = some r:=by first | (rw [hy290];with_reducible exact H) | (have H2_:=(Option.bind_some _ _).symm.trans H;rw [hy290];with_reducible exact H2_) | (have H2_:=(Option.bind_some _ _).symm.trans H;with_reducible exact H2_) | with_reducible exact H | (rw [hy290];exact H) | exact H
 have Ny290:=am hy290;clear hy290;replace H:=Option.bind_eq_some_iff.mp H;obtain ⟨t293,A20,H⟩:=H;replace H : (althingref7_raw.l0 k t293 0 a0_0 a0_1 a0_2 l0_3) = some r:=H;have A2:=am A20;clear A20;have H':=am H;clear H;go_enter Try.func42,Try.ntmps42
 go_wp2_with (first | ((with_reducible refine gate_dst (N:=1) rfl ?_);refine box_event ?hg (N:=1) ?hd (cs:=#[.int .i64 a0_0,.int .i64 a0_1,.int .i64 a0_2,.slice A0_3 l0_3.length c0_3]) (t:=25) ?hr ?_;(case hd=>rfl);(case hg=>rfl);(case hr=>first | (go_simp;done) | (go_simp;rfl));intro gb289 hg w3 hbox hb;have n0_:=am (below_step (by exact bq HB.out) hb);have n1_:=am (hbox);have n2_:=am ((by rw [hg];exact (below_size (by exact bq HB.out)) : w.heap.size ≤ gb289));have n3_:=am ((by rw [hg];exact (below_size (by exact bq HB.out)) : w.heap.size ≤ gb289));clear HB;have HB:=n0_;have BK289:=n1_;have GW289:=n2_;have GE289:=n3_;clear n0_ n1_ n2_ n3_;clear hb hbox hg;have hcz4_0 : w3.cell? ⟨gb289,0,none⟩ = some (.int .i64 a0_0):=(blk_cell BK289.out 0).trans rfl;have hcz4_1 : w3.cell? ⟨gb289,1,none⟩ = some (.int .i64 a0_1):=(blk_cell BK289.out 1).trans rfl;have hcz4_2 : w3.cell? ⟨gb289,2,none⟩ = some (.int .i64 a0_2):=(blk_cell BK289.out 2).trans rfl;have hcz4_3 : w3.cell? ⟨gb289,3,none⟩ = some (.slice A0_3 l0_3.length c0_3):=(blk_cell BK289.out 3).trans rfl;have hfz4_0:=blk_frozen BK289.out 0;have hfz4_1:=blk_frozen BK289.out 1;have hfz4_2:=blk_frozen BK289.out 2;have hfz4_3:=blk_frozen BK289.out 3) | ((with_reducible refine gate_dst (N:=14) rfl ?_);refine Kd.R_lit (Kd.int .i64) _ 3 ?hg (N:=14) ?hd (xs:=([a0_0,a0_1,a0_2,(l0_3.length : Int)] : List Int)) (inner:=[.int .i64 a0_0,.int .i64 a0_1,.int .i64 a0_2,.int .i64 (l0_3.length : Int)]) (ok:=fun _=>True) (okp:=fun _=>True) ?hr ?hp (fun _ hk=>hk) trivial (Below.refl _ _) (Nat.le_refl _) (by simp) ?_;(case hd=>rfl);(case hg=>rfl);(case hr=>first | (go_simp;done) | (go_simp;rfl));(case hp=>exact (Reps.one (show Kd.M (Kd.int .i64) _ _ _ a0_0 [.int .i64 a0_0] from rfl) (Reps.one (show Kd.M (Kd.int .i64) _ _ _ a0_1 [.int .i64 a0_1] from rfl) (Reps.one (show Kd.M (Kd.int .i64) _ _ _ a0_2 [.int .i64 a0_2] from rfl) (Reps.one (show Kd.M (Kd.int .i64) _ _ _ (l0_3.length : Int) [.int .i64 (l0_3.length : Int)] from rfl) (Reps.none _ _))))));intro v291 w5 ho6 hb hg_ hnew_;clear hg_ hnew_;(first | rw [← Ny290.out] at ho6 | (simp only [Int.reduceToNat] at ho6;rw [← Ny290.out] at ho6));have n0_:=am (Kd.R_lower ho6 (below_size (by repeat (first | (with_reducible first | exact HB.out | apply ba | apply bn | apply bd | refine tb_ ?_ GE289.out) | exact HB.out))));have n1_:=am (blk_below (g:=gb289) (o:= .cells #[.int .i64 a0_0,.int .i64 a0_1,.int .i64 a0_2,.slice A0_3 l0_3.length c0_3] 25 (0,0)) (by exact kq BK289.out) hb);have n2_:=am (below_step (by repeat (first | (with_reducible first | exact HB.out | apply ba | apply bn | apply bd | refine tb_ ?_ GE289.out) | exact HB.out)) hb);clear BK289;clear HB;have HO292:=n0_;have BK289:=n1_;have HB:=n2_;clear n0_ n1_ n2_;clear hb ho6;obtain ⟨Ao7,co7,eo7⟩:=Kd.R_slice HO292.out;subst eo7) | ((with_reducible refine gate_callee (f:=15) rfl ?_);refine gl (some 15) Try.func15 #[.slice Ao7 y290.length co7] ?_;(with_reducible refine (althingref1_Nums.calls k _ _ y290 t293 _ ?side1 ?side2 A2.out).mono ?_);(case side1=>repeat (first | exact (Kd.R_reads' HO292.out).2.2 | (with_reducible refine Kd.C_alloc ?_ _) | (with_reducible refine Kd.C_drewN ?_ _) | (with_reducible refine Kd.C_drew ?_)));(case side2=>exact (Kd.R_reads' HO292.out).2.1);rintro e w8 ⟨v294,rfl,ho0,hb⟩;refine ⟨_,rfl,?_⟩;have n0_:=am (Kd.R_below (by exact dq HO292.out) hb);have n1_:=am (Kd.R_lower ho0 (below_size (by repeat (first | (with_reducible first | exact HB.out | apply ba | apply bn | apply bd | refine tb_ ?_ GE289.out) | exact HB.out))));have n2_:=am (blk_below (g:=gb289) (o:= .cells #[.int .i64 a0_0,.int .i64 a0_1,.int .i64 a0_2,.slice A0_3 l0_3.length c0_3] 25 (0,0)) (by exact kq BK289.out) hb);have n3_:=am (below_step (by repeat (first | (with_reducible first | exact HB.out | apply ba | apply bn | apply bd | refine tb_ ?_ GE289.out) | exact HB.out)) hb);clear HO292;clear BK289;clear HB;have HO292:=n0_;have HO295:=n1_;have BK289:=n2_;have HB:=n3_;clear n0_ n1_ n2_ n3_;(try clear hb);(try clear hb2);(try clear hk);(try clear hi);(try clear ho0)))
 go_loopg [3,4] k (fun kq v3 v4 w'=>∃ (x3_1 : List Int) (x4_1 : Int),v4 = .int .i64 x4_1 ∧ Aside0 (althingref7_raw.l0 kq x3_1 x4_1 a0_0 a0_1 a0_2 l0_3 = some r) ∧ Aside0 (kq ≤ k) ∧ Aside0 (Kd.R (Kd.int .u8) 5 w' w.heap.size (fun _=>True) v3 x3_1) ∧ Aside0 (w'.heap[gb289]? = some (.cells #[.int .i64 a0_0,.int .i64 a0_1,.int .i64 a0_2,(.slice A0_3 l0_3.length c0_3)] 25 (0,0))) ∧ Aside0 (Below w.heap.size w w'))
 case atStart=>exact ⟨(t293),(0),(by first | rfl | (simp;done) | (simp [*];done)),H',⟨Nat.le_refl _⟩,⟨by exact dq HO295.out⟩,⟨by exact kq BK289.out⟩,⟨by repeat (first | (with_reducible first | exact HB.out | apply ba | apply bn | apply bd | refine tb_ ?_ GE289.out) | exact HB.out)⟩⟩
 case round=>
  clear H'
  try clear c1
  try clear p2
  try clear c4
  try clear hcz4_0
  try clear hcz4_1
  try clear hcz4_2
  try clear hcz4_3
  try clear hfz4_0
  try clear hfz4_1
  try clear hfz4_2
  try clear hfz4_3
  obtain ⟨x3_1,x4_1,rfl,HA,HK1,HO_3,BK289,HB⟩:=hrel
  cases gk with
  | zero=>exact absurd HA.out (by simp [althingref7_raw.l0])
  | succ k1=>
    have H:=HA.out;clear HA;simp only [althingref7_raw.l0] at H
    by_cases c9 : x4_1 < (l0_3.length : Int)
    rotate_left
    ·rw [if_neg c9] at H;have c9b0 : decide (x4_1 < (l0_3.length : Int)) = false:=decide_eq_false c9;clear c9;obtain rfl:=Option.some.inj H;have hcz20_0 : wr.cell? ⟨gb289,0,none⟩ = some (.int .i64 a0_0):=(blk_cell BK289.out 0).trans rfl;have hcz20_1 : wr.cell? ⟨gb289,1,none⟩ = some (.int .i64 a0_1):=(blk_cell BK289.out 1).trans rfl;have hcz20_2 : wr.cell? ⟨gb289,2,none⟩ = some (.int .i64 a0_2):=(blk_cell BK289.out 2).trans rfl;have hcz20_3 : wr.cell? ⟨gb289,3,none⟩ = some (.slice A0_3 l0_3.length c0_3):=(blk_cell BK289.out 3).trans rfl;have hfz20_0:=blk_frozen BK289.out 0;have hfz20_1:=blk_frozen BK289.out 1;have hfz20_2:=blk_frozen BK289.out 2;have hfz20_3:=blk_frozen BK289.out 3
     go_wp2
     go_ret
     exact ⟨_,by first | rfl | (simp [errW_none,errW_some] <;> rfl) | (simp [*,errW_none,errW_some] <;> rfl),by exact dq HO_3.out,by repeat (first | (with_reducible first | exact HB.out | apply ba | apply bn | apply bd | refine tb_ ?_ GE289.out) | exact HB.out)⟩
    rw [if_pos c9] at H;have c9b0 : decide (x4_1 < (l0_3.length : Int)) = true:=decide_eq_true c9;clear c9
    by_cases c10 : 0 ≤ x4_1
    rotate_left
    ·rw [if_neg c10] at H;exact absurd H (by simp)
    rw [if_pos c10] at H;have c10b0 : decide (0 ≤ x4_1) = true:=decide_eq_true c10;clear c10;replace H:=Option.bind_eq_some_iff.mp H;obtain ⟨t297,A110,H⟩:=H;replace H : ((althingref1_Row.f k1 t297).bind fun t300=>(if x3_1.length + t300.length < 140737488355328 then (althingref7_raw.l0 k1 (x3_1 ++ t300) (wrap64 (x4_1 + 1)) a0_0 a0_1 a0_2 l0_3) else (none))) = some r:=H;have A11:=am A110;clear A110;replace H:=Option.bind_eq_some_iff.mp H;obtain ⟨t300,A120,H⟩:=H;replace H : (if x3_1.length + t300.length < 140737488355328 then (althingref7_raw.l0 k1 (x3_1 ++ t300) (wrap64 (x4_1 + 1)) a0_0 a0_1 a0_2 l0_3) else (none)) = some r:=H;have A12:=am A120;clear A120
    by_cases c13 : x3_1.length + t300.length < 140737488355328
    rotate_left
    ·rw [if_neg c13] at H;exact absurd H (by simp)
    rw [if_pos c13] at H;have LMc13:=am c13;clear c13;obtain ⟨y303,hy303⟩ : ∃ y_ : List Int,y_ = (x3_1 ++ t300):=⟨_,rfl⟩
    replace H : (althingref7_raw.l0 k1 y303 (wrap64 (x4_1 + 1)) a0_0 a0_1 a0_2 l0_3) = some r:=by first | (rw [hy303];with_reducible exact H) | (have H2_:=(Option.bind_some _ _).symm.trans H;rw [hy303];with_reducible exact H2_) | (have H2_:=(Option.bind_some _ _).symm.trans H;with_reducible exact H2_) | with_reducible exact H | (rw [hy303];exact H) | exact H
    have Ny303:=am hy303;clear hy303;have H':=am H;clear H;have hcz14_0 : wr.cell? ⟨gb289,0,none⟩ = some (.int .i64 a0_0):=(blk_cell BK289.out 0).trans rfl;have hcz14_1 : wr.cell? ⟨gb289,1,none⟩ = some (.int .i64 a0_1):=(blk_cell BK289.out 1).trans rfl;have hcz14_2 : wr.cell? ⟨gb289,2,none⟩ = some (.int .i64 a0_2):=(blk_cell BK289.out 2).trans rfl;have hcz14_3 : wr.cell? ⟨gb289,3,none⟩ = some (.slice A0_3 l0_3.length c0_3):=(blk_cell BK289.out 3).trans rfl;have hfz14_0:=blk_frozen BK289.out 0;have hfz14_1:=blk_frozen BK289.out 1;have hfz14_2:=blk_frozen BK289.out 2;have hfz14_3:=blk_frozen BK289.out 3;have p296 : 0 ≤ (x4_1 : Int):=of_decide_eq_true (by first | (with_reducible assumption) | assumption);have q296 : x4_1 < (l0_3.length : Int):=of_decide_eq_true (by first | (with_reducible assumption) | assumption);obtain ⟨ad296,A296_3,c296_3,e296,hx296_0,hx296_1,hx296_2,hx296_3,hl296_3,hi296_3⟩:=at_T25 HR0_3.out x4_1 p296 q296;cases e296;replace hx296_0:=(HB.out.cell (World.block_lt_of_cell? w _ hx296_0)).trans hx296_0;replace hx296_1:=(HB.out.cell (World.block_lt_of_cell? w _ hx296_1)).trans hx296_1;replace hx296_2:=(HB.out.cell (World.block_lt_of_cell? w _ hx296_2)).trans hx296_2;replace hx296_3:=(HB.out.cell (World.block_lt_of_cell? w _ hx296_3)).trans hx296_3;have HR296_3:=am hi296_3;have HC296_3:=am hl296_3;clear hi296_3 hl296_3;replace p296:=eq_true p296;replace q296:=eq_true q296
    go_wp2_with (first | ((with_reducible refine gate_callee (f:=42) rfl ?_);refine gl (some 29) Try.func42 #[.agg #[.int .i64 ((rd_T25 l0_3 x4_1).f0),.int .i64 ((rd_T25 l0_3 x4_1).f1),.int .i64 ((rd_T25 l0_3 x4_1).f2),.slice A296_3 ((rd_T25 l0_3 x4_1).f3).length c296_3]] ?_;(with_reducible refine (ih k1 (by have:=HK1.out;omega) ((rd_T25 l0_3 x4_1).f0) ((rd_T25 l0_3 x4_1).f1) ((rd_T25 l0_3 x4_1).f2) _ _ ((rd_T25 l0_3 x4_1).f3) t297 _ ?side1 ?side2 A11.out).mono ?_);(case side1=>repeat (first | exact (Kd.C_below HR296_3.out HB.out) | (with_reducible refine Kd.C_alloc ?_ _) | (with_reducible refine Kd.C_drewN ?_ _) | (with_reducible refine Kd.C_drew ?_)));(case side2=>exact HC296_3.out);rintro e w15 ⟨v298,rfl,ho0,hb⟩;refine ⟨_,rfl,?_⟩;have n0_:=am (Kd.R_elder' (by exact dq HO_3.out) (Kd.R_base ho0) hb);have n1_:=am (Kd.R_lower (Kd.R_new' ho0 (Kd.R_lt (by exact dq HO_3.out))) (below_size (by repeat (first | (with_reducible first | exact HB.out | apply ba | apply bn | apply bd | refine tb_ ?_ GE289.out) | exact HB.out))));have n2_:=am (blk_below (g:=gb289) (o:= .cells #[.int .i64 a0_0,.int .i64 a0_1,.int .i64 a0_2,.slice (some ad296) l0_3.length c0_3] 25 (0,0)) (by exact kq BK289.out) hb);have n3_:=am (below_step (by repeat (first | (with_reducible first | exact HB.out | apply ba | apply bn | apply bd | refine tb_ ?_ GE289.out) | exact HB.out)) hb);clear HO_3;clear BK289;clear HB;have HO_3:=n0_;have HO299:=n1_;have BK289:=n2_;have HB:=n3_;clear n0_ n1_ n2_ n3_;(try clear hb);(try clear hb2);(try clear hk);(try clear hi);(try clear ho0);obtain ⟨Ao16,co16,eo16⟩:=Kd.R_slice HO299.out;subst eo16) | ((with_reducible refine gate_callee (f:=18) rfl ?_);refine gl (some 30) Try.func18 #[.slice Ao16 t297.length co16] ?_;(with_reducible refine (althingref1_Row.calls k1 _ _ t297 t300 _ ?side1 ?side2 A12.out).mono ?_);(case side1=>repeat (first | exact (Kd.R_reads' HO299.out).2.2 | (with_reducible refine Kd.C_alloc ?_ _) | (with_reducible refine Kd.C_drewN ?_ _) | (with_reducible refine Kd.C_drew ?_)));(case side2=>exact (Kd.R_reads' HO299.out).2.1);rintro e w17 ⟨v301,rfl,ho0,hb⟩;refine ⟨_,rfl,?_⟩;have n0_:=am (Kd.R_elder' (by exact dq HO_3.out) (Kd.R_base ho0) hb);have n1_:=am (Kd.R_elder' (by exact dq HO299.out) (Kd.R_base ho0) hb);have n2_:=am (Kd.R_lower (Kd.R_new' (Kd.R_new' ho0 (Kd.R_lt (by exact dq HO_3.out))) (Kd.R_lt (by exact dq HO299.out))) (below_size (by repeat (first | (with_reducible first | exact HB.out | apply ba | apply bn | apply bd | refine tb_ ?_ GE289.out) | exact HB.out))));have n3_:=am (blk_below (g:=gb289) (o:= .cells #[.int .i64 a0_0,.int .i64 a0_1,.int .i64 a0_2,.slice (some ad296) l0_3.length c0_3] 25 (0,0)) (by exact kq BK289.out) hb);have n4_:=am (below_step (by repeat (first | (with_reducible first | exact HB.out | apply ba | apply bn | apply bd | refine tb_ ?_ GE289.out) | exact HB.out)) hb);clear HO_3;clear HO299;clear BK289;clear HB;have HO_3:=n0_;have HO299:=n1_;have HO302:=n2_;have BK289:=n3_;have HB:=n4_;clear n0_ n1_ n2_ n3_ n4_;(try clear hb);(try clear hb2);(try clear hk);(try clear hi);(try clear ho0);obtain ⟨Ao19,co19,eo19⟩:=Kd.R_slice HO302.out;subst eo19) | ((with_reducible refine gate_builtin (b:= .append) (xs:=#[.tmp 23,.tmp 30]) rfl ?_);at_builtin;refine Kd.R_append_rows (Kd.int .u8) (w0:=w) w.heap.size rfl (.tmp 23) (.tmp 30) 38 5 (.int .u8 0) 1 rfl Try.underlying38 info5 rfl (by decide) (by omega) u3 x3_1 t300 _ _ _ (fun k_=>some k_ ≠ (.slice Ao16 t297.length co16 : Value).ownBlock ∧ some k_ ≠ (.slice Ao19 t300.length co19 : Value).ownBlock) (fun _=>False) rfl rfl ?aO ?aR (fun _ _ h=>h) (fun _ h=>h.elim) ?aF ?aB ?aS ?aL ?_;(case aR=>repeat (first | exact (Kd.R_reads' HO302.out).2.2 | (with_reducible refine Kd.C_alloc ?_ _) | (with_reducible refine Kd.C_drewN ?_ _) | (with_reducible refine Kd.C_drew ?_)));(case aB=>exact (by repeat (first | (with_reducible first | exact HB.out | apply ba | apply bn | apply bd | refine tb_ ?_ GE289.out) | exact HB.out)));(case aF=>exact (fun k_ hk=>⟨Kd.fresh' (Kd.R_lt (by exact dq HO299.out)) k_ hk,Kd.fresh' (Kd.R_lt (by exact dq HO302.out)) k_ hk⟩));(case aO=>exact (by (with_reducible repeat (first | apply Kd.R_alloc | apply Kd.R_drewN | apply Kd.R_drew));exact Kd.R_mono HO_3.out (fun _ hk=>⟨hk.1.2,hk.2⟩)));(case aS=>exact (below_size (by repeat (first | (with_reducible first | exact HB.out | apply ba | apply bn | apply bd | refine tb_ ?_ GE289.out) | exact HB.out))));(case aL=>have:=LMc13.out;omega);intro v304 w18 ho hb hg hat;rw [← Ny303.out] at ho;have n0_:=am (blk_grown (g:=gb289) (o:= .cells #[.int .i64 a0_0,.int .i64 a0_1,.int .i64 a0_2,.slice (some ad296) l0_3.length c0_3] 25 (0,0)) (by exact kq BK289.out) hg (Kd.R_ne HO_3.out BK289.out (by decide)));have n1_:=am (Kd.R_after (ok:=(fun k_=>some k_ ≠ (.slice Ao19 t300.length co19 : Value).ownBlock)) (by (with_reducible repeat (first | apply Kd.R_alloc | apply Kd.R_drewN | apply Kd.R_drew));exact Kd.R_mono HO299.out (fun _ hk=>⟨hk.2,hk.1.2⟩)) hg hat);have n2_:=am (Kd.R_after (ok:=(fun k_=>some k_ ≠ (.slice Ao16 t297.length co16 : Value).ownBlock)) (by (with_reducible repeat (first | apply Kd.R_alloc | apply Kd.R_drewN | apply Kd.R_drew));exact Kd.R_mono HO302.out (fun _ hk=>⟨hk.2,hk.1.2⟩)) hg hat);have n3_:=am (hb);have n4_:=am (ho);clear BK289;clear HO299;clear HO302;clear HB;clear HO_3;have BK289:=n0_;have HO299:=n1_;have HO302:=n2_;have HB:=n3_;have HO305:=n4_;clear n0_ n1_ n2_ n3_ n4_;clear ho hb hg hat))
    go_roundg k1
    case measure=>have:=HK1.out;omega
    case rel=>exact ⟨(y303),(wrap64 (x4_1 + 1)),(by first | rfl | (simp;done) | (simp [*];done)),H',⟨by have:=HK1.out;omega⟩,⟨by (with_reducible repeat (first | apply Kd.R_alloc | apply Kd.R_drewN | apply Kd.R_drew));exact Kd.R_mono HO305.out (fun _ hk=>trivial)⟩,⟨by exact kq BK289.out⟩,⟨by repeat (first | (with_reducible first | exact HB.out | apply ba | apply bn | apply bd | refine tb_ ?_ GE289.out) | exact HB.out)⟩⟩
-- NOT PRINTED: function 20 (althingref7_EncodeExt)
-- NOT PRINTED: function 72 (slices_Backward_byte_byte)
end Go.Proofs.Ytilckocpgififaa.G
/- The reference's bytes of a call, plainly: the same as the code's. -/
namespace Go.Proofs.Ytilckocpgififaa.G
open Go.RowKit Go.Shelf Go.Proofs.YtilckocpgififaaW.PrintWords Go.Proofs.YtilckocpgififaaW.PrintMore Go.Proofs.Ytilckocpgififaa.PNum
set_option linter.unusedVariables false
set_option linter.unusedSimpArgs false
theorem raw_loop (f : Nat) (hf : f ≤ 3) (l : List S25) (h4 : l.length ≤ 4) (N : Nat) (hN : 22 ≤ N) (a b c : Int) (ih : ∀ x ∈ l,okT f x = true → ∀ k,N ≤ k → althingref7_raw.f k x.f0 x.f1 x.f2 x.f3 = some (encC f x)) (hok : ∀ x ∈ l,okT f x = true) (d : Nat) :
 ∀ (k i : Nat) (o : List Int),i + d = l.length → d + N < k → o.length + 4000 * d < 1000000 → althingref7_raw.l0 k o i a b c l = some (o ++ rowsB ((l.drop i).map (encC f))):=by
 induction d with
 | zero=>
   intro k i o hi hk hb;obtain ⟨k,rfl⟩ : ∃ q,k = q + 1:=⟨k - 1,by omega⟩;rw [althingref7_raw.l0,if_neg (by omega),List.drop_eq_nil_of_le (by omega)]
   simp [rowsB]
 | succ d ihd=>
   intro k i o hi hk hb;obtain ⟨k,rfl⟩ : ∃ q,k = q + 1:=⟨k - 1,by omega⟩
   have hlt : i < l.length:=by omega
   have e1 : wrap64 ((i : Int) + 1) = ((i + 1 : Nat) : Int):=by rw [wrap_in (by omega) (by omega)];omega
   have c1 : (i : Int) < (l.length : Int):=by omega
   have c2 : (0 : Int) ≤ (i : Int):=by omega
   have hm:=List.getElem_mem hlt;have hlen:=encC_most f _ (hok _ hm);have hsm:=mostC_small hf;have hrl:=rowB_length (encC f l[i]);have hbs:=sizeN_range ((encC f l[i]).length : Int);rw [althingref7_raw.l0,if_pos c1,if_pos c2,rd_natT l i hlt,ih _ hm (hok _ hm) k (by omega),Option.bind_some,refRow_tells k _ (by omega) (by omega),Option.bind_some,if_pos (by omega),e1];rw [ihd k (i + 1) _ (by omega) (by omega) (by rw [List.length_append];omega),List.drop_eq_getElem_cons hlt,List.map_cons,rowsB_cons,List.append_assoc]
theorem raw_tells : ∀ (f : Nat) (hf : f ≤ 3) (c : S25),okT f c = true → ∀ k,30 + 10 * f ≤ k → althingref7_raw.f k c.f0 c.f1 c.f2 c.f3 = some (encC f c):=by
 intro f
 induction f with
 | zero=>
   intro hf c h k hk;obtain ⟨k,rfl⟩ : ∃ q,k = q + 2:=⟨k - 2,by omega⟩;have hp:=refNums_tells (k + 1) [c.f0,c.f1,c.f2,(c.f3.length : Int)] (by simp) (by simp;omega);have e:=okT_leaf h;rw [althingref7_raw.f,hp,Option.bind_some,althingref7_raw.l0];rw [if_neg (by rw [e];simp)]
   simp [encC]
 | succ f ih=>
   intro hf c h k hk;obtain ⟨h4,hok⟩:=okT_kids h;obtain ⟨k,rfl⟩ : ∃ q,k = q + 1:=⟨k - 1,by omega⟩;have hp:=refNums_tells k [c.f0,c.f1,c.f2,(c.f3.length : Int)] (by simp) (by simp;omega);have hl:=numsB_length [c.f0,c.f1,c.f2,(c.f3.length : Int)];simp only [List.length_cons,List.length_nil] at hl;rw [althingref7_raw.f,hp,Option.bind_some];rw [show (0 : Int) = ((0 : Nat) : Int) from rfl];rw [raw_loop f (by omega) c.f3 h4 (30 + 10 * f) (by omega) _ _ _ (fun x hx hx' q hq=>ih (by omega) x hx' q hq) hok c.f3.length k 0 _ (by omega) (by omega) (by omega)]
   simp [encC]
end Go.Proofs.Ytilckocpgififaa.G
/- althingref7.EncodeExt: an extrinsic as bytes, or refused (laid by mkrefenc.py). -/
namespace Go.Proofs.Ytilckocpgififaa.G
open Go.Extern.Stop (cell)
open Go.RowKit Go.Shelf Go.Proofs.YtilckocpgififaaW.PrintWords Go.Proofs.YtilckocpgififaaW.PrintLast Go.Proofs.YtilckocpgififaaW.PrintMore Go.Proofs.Ytilckocpgififaa.PNum
set_option linter.unusedVariables false
set_option linter.unusedSimpArgs false
def refEnc_r6.T : Bool × List (List Nat × List Nat):=(true,[([],[]),([0],[0]),([],[]),([2],[2]),([],[]),([4],[4]),([],[]),([6],[6]),([],[]),([8],[8]),([],[]),([10],[10]),([],[]),([12],[12]),([1,3,5,7,9,11,13],[1,3,5,7,9,11,13]),([14],[14]),([],[]),([16],[16]),([15,17,15],[15,17]),([18,18,0,1,2,3,4,5,6,7,8,9,10,11,12,13,14,15,16,17,18],[18])])
def refEnc_r6.B : List Nat:=[0,1,0,4,0,16,0,64,0,256,0,1024,0,4096,16383,32767,0,65536,262143,524287]
theorem refEnc_r6.tab : rtab .any (opsOf Try.f20 6) = refEnc_r6.T:=by kernel_rfl
theorem refEnc_r6.bits : waitsOk refEnc_r6.T.2 refEnc_r6.B = true:=by kernel_rfl
def refEnc_r6.l0 : Array Bool:=bl 20 1
def refEnc_r6.l1 : Array Bool:=bl 20 3
def refEnc_r6.l2 : Array Bool:=bl 20 7
def refEnc_r6.l3 : Array Bool:=bl 20 15
def refEnc_r6.l4 : Array Bool:=bl 20 31
def refEnc_r6.l5 : Array Bool:=bl 20 63
def refEnc_r6.l6 : Array Bool:=bl 20 127
def refEnc_r6.l7 : Array Bool:=bl 20 255
def refEnc_r6.l8 : Array Bool:=bl 20 511
def refEnc_r6.l9 : Array Bool:=bl 20 1023
def refEnc_r6.l10 : Array Bool:=bl 20 2047
def refEnc_r6.l11 : Array Bool:=bl 20 4095
def refEnc_r6.l12 : Array Bool:=bl 20 8191
def refEnc_r6.l13 : Array Bool:=bl 20 16383
def refEnc_r6.l14 : Array Bool:=bl 20 81919
def refEnc_r6.l15 : Array Bool:=bl 20 212991
def refEnc_r6.l16 : Array Bool:=bl 20 229375
def refEnc_r6.l17 : Array Bool:=bl 20 262143
def refEnc_r6.l18 : Array Bool:=bl 20 524287
def refEnc_r6.l19 : Array Bool:=bl 20 1048575
set_option maxRecDepth 100000 in
set_option maxHeartbeats 16000000 in
theorem refEncodeExt_calls (x : Ext) (A : Option Addr) (c : Nat) (w : World) (hx : x.sum.length = 32) (hC : Kd.C k25 w A x.call.f3.length x.call.f3) (hc : x.call.f3.length ≤ c) :
 Calls Try.prog 20 #[.agg (x.cells A c).toArray] w fun e w'=>∃ v0 : Value,e = .returned (.tuple #[v0,.int .i64 (errE (isExtP x))]) ∧ Kd.R (Kd.int .u8) 5 w' w.heap.size (fun _=>True) v0 (bytesE x) ∧ Below w.heap.size w w':=by
 obtain ⟨X,hX⟩ : ∃ X,X = x.cells A c:=⟨_,rfl⟩
 have hXl : X.length = 49:=by rw [hX];exact Ext.cells_length _ _ _ hx
 obtain ⟨r,hr⟩ : ∃ r,isExtP x = r:=⟨_,rfl⟩;have HALL : Aside0 (∀ w1,Below w.heap.size w w1 → Calls Try.prog 13 #[.agg X.toArray] w1 fun e w'=>e = .returned (.bool r) ∧ Below w1.heap.size w1 w'):=⟨fun w1 hb=>by rw [hX,← hr];exact althingref7_IsExt.all x A c w1 hx (Kd.C_below hC hb) hc⟩;have HX:=am hX;have Hr:=am hr;have HXl:=am hXl;have Hx:=am hx;have HC:=am hC;have Hc:=am hc;rw [← hX,hr];clear hX hr hXl hx hC hc
 cases r with
 | false=>
   go_enter Try.func20,Try.ntmps20
   go_upto_region 1 with ((with_reducible refine gate_dst (N:=1) rfl ?_);refine box_event ?hg (N:=1) ?hd (cs:=X.toArray) (t:=33) ?hr ?_;(case hd=>rfl);(case hg=>rfl);(case hr=>first | (go_simp;done) | (go_simp;rfl));intro g1 hg1 w1 hbox1 hb1;have hR1:=am (rangeAt_box hbox1);have L1:=am (blk_lt hbox1);have B1:=am hb1;clear hg1 hbox1 hb1)
   go_wp2_with (first
    | ((with_reducible refine gate_dst (N:=7) rfl ?_);refine wpList_load_mid rfl 33 _ rfl g1 0 rfl X _ hR1.out Try.underlying33 rfl (by rw [HXl.out];exact info_ext') ?_)
    | (go_at_call 13;with_reducible refine (HALL.out _ B1.out).mono ?_;rintro e w2 ⟨rfl,hb2⟩;have B2:=am hb2;clear hb2))
   go_ret2
   refine ⟨_,rfl,?_,below_step B1.out B2.out⟩
   have e : bytesE x = []:=by unfold bytesE;rw [Hr.out];rfl
   rw [e];exact Kd.R_nil _ _ _ _ _
 | true=>
   have HP7 : Aside0 (althingref1_Nums.f 40 (headE x) = some (numsB (headE x))):=⟨refNums_tells 40 (headE x) (show 7 ≤ 1000000 by decide) (show 7 + 16 ≤ 40 by decide)⟩;obtain ⟨fl,hfl⟩ : ∃ fl,fl = flagI x.vaye:=⟨_,rfl⟩;have hl7:=numsB_length (headE x);have hl6:=numsB_length (voteE x);obtain ⟨b5,hb5⟩ : ∃ b5,b5 = numsB (headE x) ++ sumI x.sum:=⟨_,rfl⟩;have HB5:=am hb5;obtain ⟨b6,hb6⟩ : ∃ b6,b6 = numsB (voteE x):=⟨_,rfl⟩;have HB6:=am hb6;have HP6 : Aside0 (althingref1_Nums.f 40 [x.vkind,x.va,x.vn,x.vs,x.vlevel,fl] = some b6):=⟨by rw [hfl,hb6];exact refNums_tells 40 (voteE x) (show 6 ≤ 1000000 by decide) (show 6 + 16 ≤ 40 by decide)⟩;have e7 : (headE x).length = 7:=rfl;have e6 : (voteE x).length = 6:=rfl;have HL32 : Aside0 (((numsB (headE x)).length + 32) * 1 ≤ 140737488355328):=⟨by omega⟩;have HL5 : Aside0 (b5.length ≤ 200 ∧ b6.length ≤ 200):=⟨by rw [hb5,hb6,List.length_append,sumI_length,Hx.out];omega⟩;have HFL:=am hfl;obtain ⟨bv,hbv⟩ : ∃ b,x.vaye = b:=⟨_,rfl⟩;have HBV:=am hbv
   have hflv : fl = if bv = true then 1 else 0:=by rw [hfl,← hbv];rfl
   have HFV:=am hflv;clear hl7 hl6 hfl hb5 hb6 e7 e6 hbv hflv;go_enter Try.func20,Try.ntmps20
   go_upto_region 1 with ((with_reducible refine gate_dst (N:=1) rfl ?_);refine box_event ?hg (N:=1) ?hd (cs:=X.toArray) (t:=33) ?hr ?_;(case hd=>rfl);(case hg=>rfl);(case hr=>first | (go_simp;done) | (go_simp;rfl));intro g1 hg1 w1 hbox1 hb1;have hR1:=am (rangeAt_box hbox1);have L1:=am (blk_lt hbox1);have B1:=am hb1;clear hg1 hbox1 hb1)
   go_upto_region 3 with (first
    | ((with_reducible refine gate_dst (N:=7) rfl ?_);refine wpList_load_mid rfl 33 _ rfl g1 0 rfl X _ hR1.out Try.underlying33 rfl (by rw [HXl.out];exact info_ext') ?_)
    | (go_at_call 13;with_reducible refine (HALL.out _ B1.out).mono ?_;rintro e w2 ⟨rfl,hb2⟩;have B2:=am hb2;clear hb2))
   have hr2_:=rangeAt_below hR1.out B2.out L1.out;have HR2w:=am hr2_;obtain ⟨_,py,_,_,_,_⟩:=x.at_vote A c Hx.out (HX.out ▸ hr2_);rw [HBV.out] at py;clear hr2_;have L2w : Aside0 (g1 < w2.heap.size):=⟨Nat.lt_of_lt_of_le L1.out B2.out.size⟩;have B02:=am (below_drew (below_step B1.out B2.out))
   cases bv with
   | false=>
     have hfv:=HFV.out;simp only [Bool.false_eq_true,if_true,if_false] at hfv;subst hfv
     go_upto_region 6 with (fail)
     clear py;have r0:=(World.rangeAt_drew _ g1 0 _).2 HR2w.out;have hR2:=am r0;have L2 : Aside0 (g1 < w2.drew.heap.size):=⟨L2w.out⟩;refine start_ (n:=20) (S:=fun w'=>w'.rangeAt g1 0 X) (ds:=[]) (bl 20 0) (by kernel_rfl) rfl rfl r0 (fun hHeld=>?_);refine with_tabW refEnc_r6.tab refEnc_r6.bits (fun HT_ HW_=>?_);refine p_ HT_ 0 (some 13) refEnc_r6.l0 ?_;refine tk HT_ HW_ hHeld 1 (some 14) refEnc_r6.l1 (hr:=by intro w' hs_;obtain ⟨p0,p1,p2,p3,p4,p5,p6⟩:=x.at_head A c (HX.out ▸ hs_);go_simp;with_reducible rfl) (h:=?_);refine p_ HT_ 2 (some 15) refEnc_r6.l2 ?_;refine tk HT_ HW_ hHeld 3 (some 16) refEnc_r6.l3 (hr:=by intro w' hs_;obtain ⟨p0,p1,p2,p3,p4,p5,p6⟩:=x.at_head A c (HX.out ▸ hs_);go_simp;with_reducible rfl) (h:=?_);refine p_ HT_ 4 (some 17) refEnc_r6.l4 ?_;refine tk HT_ HW_ hHeld 5 (some 18) refEnc_r6.l5 (hr:=by intro w' hs_;obtain ⟨p0,p1,p2,p3,p4,p5,p6⟩:=x.at_head A c (HX.out ▸ hs_);go_simp;with_reducible rfl) (h:=?_);refine p_ HT_ 6 (some 19) refEnc_r6.l6 ?_;refine tk HT_ HW_ hHeld 7 (some 20) refEnc_r6.l7 (hr:=by intro w' hs_;obtain ⟨p0,p1,p2,p3,p4,p5,p6⟩:=x.at_head A c (HX.out ▸ hs_);go_simp;with_reducible rfl) (h:=?_);refine p_ HT_ 8 (some 21) refEnc_r6.l8 ?_;refine tk HT_ HW_ hHeld 9 (some 22) refEnc_r6.l9 (hr:=by intro w' hs_;obtain ⟨p0,p1,p2,p3,p4,p5,p6⟩:=x.at_head A c (HX.out ▸ hs_);go_simp;with_reducible rfl) (h:=?_);refine p_ HT_ 10 (some 23) refEnc_r6.l10 ?_;refine tk HT_ HW_ hHeld 11 (some 24) refEnc_r6.l11 (hr:=by intro w' hs_;obtain ⟨p0,p1,p2,p3,p4,p5,p6⟩:=x.at_head A c (HX.out ▸ hs_);go_simp;with_reducible rfl) (h:=?_);refine p_ HT_ 12 (some 25) refEnc_r6.l12 ?_;refine tk HT_ HW_ hHeld 13 (some 26) refEnc_r6.l13 (hr:=by intro w' hs_;obtain ⟨p0,p1,p2,p3,p4,p5,p6⟩:=x.at_head A c (HX.out ▸ hs_);go_simp;with_reducible rfl) (h:=?_);refine p_ HT_ 16 (some 29) refEnc_r6.l14 ?_;refine p_ HT_ 17 (some 30) refEnc_r6.l15 ?_;refine o_ HT_ 14 (some 27) refEnc_r6.l16 fun K hK=>?_;refine slice_step (cs:=#[.int .i64 x.kind,.int .i64 x.who,.int .i64 x.dest,.int .i64 x.amt,.int .i64 x.rfd,.int .i64 x.track,.int .i64 x.level]) (t:=3) (n:=7) (c:=7) (by first | (go_simp;done) | (go_simp;rfl)) ?_;intro gN hg_ w3 hbox_ hb_;replace hHeld:=rangeAt_below hHeld hb_ (by have:=L2.out;exact this);refine hK.out _ _ hHeld (fun hHeld=>?_);clear hK K;have BXgN:=am hbox_;have Bw3:=am hb_;clear hg_ hbox_ hb_;refine nm (some 27) ?_;refine o_ HT_ 15 (some 28) refEnc_r6.l17 fun K hK=>?_;refine gs Try.func15 #[.slice (some ⟨gN,0,none⟩) 7 7] ?_;refine (althingref1_Nums.calls 40 (some ⟨gN,0,none⟩) 7 (headE x) (numsB (headE x)) w3 (C_head (ns:=headE x) BXgN.out (show 7 ≤ 1000000 by decide)) (Nat.le_refl _) HP7.out).mono ?_;rintro e w4 ⟨v0_,rfl,hr_,hb_⟩;obtain ⟨A4,c4,hv_,hc_,hC_⟩:=Kd.R_reads hr_;subst hv_;replace hHeld:=rangeAt_below hHeld hb_ (Nat.lt_of_lt_of_le L2.out Bw3.out.size);have HR4:=am hr_;have Bw4:=am hb_;clear hr_ hb_ hc_ hC_;refine ⟨_,rfl,?_⟩;refine hK.out _ _ hHeld (fun hHeld=>?_);clear hK K;refine nm (some 28) ?_;refine o_ HT_ 18 (some 31) refEnc_r6.l18 fun K hK=>?_;refine Kd.R_append_rows_step (Kd.int .u8) (w0:=w3) w3.heap.size (by rfl) (.tmp 28) (.tmp 30) 38 5 (.int .u8 0) 1 rfl Try.underlying38 info_u8z rfl (by decide) (by omega) _ (numsB (headE x)) (sumI x.sum) _ _ _ (fun _=>True) (fun _=>False) rfl rfl HR4.out (C_sum x A c Hx.out (HX.out ▸ hHeld)) (fun _ _ h=>h) (fun _ h=>h.elim) (fun _ _=>trivial) Bw4.out Bw4.out.size HL32.out ?_;intro v5 w5 ho_ hb_ hg_ hat_;rw [← HB5.out] at ho_;clear hg_ hat_;replace hHeld:=rangeAt_below (rangeAt_below hR2.out Bw3.out L2.out) hb_ (Nat.lt_of_lt_of_le L2.out Bw3.out.size)
     obtain ⟨A5,c5,hv_,hc_,hC_⟩:=Kd.R_reads ho_;subst hv_;have HR5:=am ho_;have B5:=am hb_;clear ho_ hb_ hc_ hC_;refine hK.out _ _ hHeld (fun hHeld=>?_);clear hK K;refine nm (some 31) ?_;refine p_ HT_ 19 (some 5) refEnc_r6.l19 ?_;refine done_ (done_of HT_.out (by kernel_rfl)) ?_;have hR5:=am hHeld;clear HT_ HW_ hHeld HR4;have L5 : Aside0 (g1 < w5.heap.size):=⟨Nat.lt_of_lt_of_le (Nat.lt_of_lt_of_le L2.out Bw3.out.size) B5.out.size⟩;have B05:=am (below_step (below_step B02.out Bw3.out) B5.out);obtain ⟨p39,p40,p41,p42,p43,p44⟩:=x.at_vote A c Hx.out (HX.out ▸ hR5.out);clear p40
     go_upto_region 8 with (first
      | ((with_reducible refine gate_dst (N:=49) rfl ?_);refine slice_event' ?hg (N:=49) ?hd (cs:=#[.int .i64 x.vkind,.int .i64 x.va,.int .i64 x.vn,.int .i64 x.vs,.int .i64 x.vlevel,.int .i64 0]) (t:=3) (n:=6) (c:=6) ?hr ?_;(case hd=>rfl);(case hg=>rfl);(case hr=>first | (go_simp;done) | (go_simp;rfl));intro gV hg_ w6 hbox_ hb_;have BXV:=am hbox_;have B6:=am hb_;clear hg_ hbox_ hb_)
      | (go_at_call 15;go_loud (have hN_:=althingref1_Nums.calls 40 (some ⟨gV,0,none⟩) 6 [x.vkind,x.va,x.vn,x.vs,x.vlevel,0] b6 w6 (C_head (ns:=[x.vkind,x.va,x.vn,x.vs,x.vlevel,0]) BXV.out (show 6 ≤ 1000000 by decide)) (Nat.le_refl _) HP6.out;rw [show [x.vkind,x.va,x.vn,x.vs,x.vlevel,0].length = 6 from rfl] at hN_;(with_reducible refine hN_.mono ?_);clear hN_;rintro e w7 ⟨v7,rfl,hr_,hb_⟩;obtain ⟨A7,c7,hv_,hc_,hC_⟩:=Kd.R_reads hr_;subst hv_;have HC7:=am hC_;have Hc7:=am hc_;have B7:=am hb_;clear hr_ hb_ hC_ hc_;have HR57:=am (Kd.R_below (Kd.R_below HR5.out B6.out) B7.out);have BS7:=am (below_step (below_step B5.out B6.out) B7.out)))
      | ((with_reducible refine gate_builtin (b:= .append) (xs:=#[.tmp 32,.tmp 50]) rfl ?_);at_builtin;refine Kd.R_append_rows (Kd.int .u8) (w0:=w3) w3.heap.size rfl (.tmp 32) (.tmp 50) 38 5 (.int .u8 0) 1 rfl Try.underlying38 info_u8z rfl (by decide) (by omega) _ b5 b6 _ _ _ (fun _=>True) (fun _=>False) rfl rfl HR57.out HC7.out (fun _ _ h=>h) (fun _ h=>h.elim) (fun _ _=>trivial) BS7.out BS7.out.size (by have:=HL5.out;omega) ?_;intro v8 w8 ho_ hb_ hg_ hat_;clear hg_ hat_;obtain ⟨A8,c8,hv_,hc_,hC_⟩:=Kd.R_reads ho_;subst hv_;have HR8:=am ho_;have B8:=am hb_;clear ho_ hb_ hc_ hC_))
     clear p39 p41 p42 p43 p44;have HL8 : Aside0 ((b5 ++ b6).length ≤ 400):=⟨by have:=HL5.out;rw [List.length_append];omega⟩;have hR8:=am (rangeAt_below (rangeAt_below hR2.out Bw3.out L2.out) B8.out (Nat.lt_of_lt_of_le L2.out Bw3.out.size));have B08:=am (below_step (below_step B02.out Bw3.out) B8.out);obtain ⟨p45,p46,p47,p48⟩:=x.at_call A c Hx.out (HX.out ▸ hR8.out);obtain ⟨b8,hb8⟩ : ∃ b8,b8 = b5 ++ b6:=⟨_,rfl⟩;have hR8_:=HR8.out;rw [← hb8] at hR8_;have HR8b:=am hR8_;have HL8b : Aside0 (b8.length ≤ 400):=⟨by rw [hb8];exact HL8.out⟩
     have hlen8 : b5.length + b6.length = b8.length:=by rw [hb8,List.length_append]
     rw [hlen8]
     have eB : bytesE x = b8 ++ rowB (callB x):=by
      rw [hb8,HB6.out,HB5.out]
      unfold bytesE
      rw [Hr.out,if_pos rfl]
      unfold encE
      simp only [List.append_assoc]
     have EB:=am eB;clear eB HR8 HP6 HP7 HL32 hR8_ HL8 hb8 hlen8
     by_cases h0 : x.call.f0 = 0
     ·have d0 : decide (x.call.f0 = 0) = true:=decide_eq_true h0;have d1 : (x.call.f0 == 0) = true:=beq_iff_eq.2 h0
      have d2 : (x.call.f0 != 0) = false:=by rw [bne,d1];rfl
      have eC : callB x = []:=by unfold callB;rw [if_pos h0]
      have EC:=am eC;have HROW : Aside0 (althingref1_Row.f 40 [] = some (rowB [])):=⟨refRow_tells 40 [] (by decide) (by decide)⟩
      have hrl : (rowB []).length ≤ 10:=by decide
      have HRL:=am hrl;clear h0 eC hrl
      go_wp2_with (first
       | (go_at_call 18;go_loud (have hR_:=(althingref1_Row.calls 40 none 0 [] (rowB []) w8 (Kd.C_nil _ _) (Nat.le_refl _) HROW.out);rw [show ([] : List Int).length = 0 from rfl] at hR_;(with_reducible refine hR_.mono ?_);clear hR_;rintro e w10 ⟨v10,rfl,hr_,hb_⟩;obtain ⟨A10,c10,hv_,hc_,hC_⟩:=Kd.R_reads hr_;subst hv_;have HC10:=am hC_;have B10:=am hb_;clear hr_ hb_ hc_ hC_;have HR810:=am (Kd.R_below HR8b.out B10.out);have BS10:=am (below_step B8.out B10.out)))
       | ((with_reducible refine gate_builtin (b:= .append) (xs:=#[.tmp 59,.tmp 61]) rfl ?_);at_builtin;refine Kd.R_append_rows (Kd.int .u8) (w0:=w3) w3.heap.size rfl (.tmp 59) (.tmp 61) 38 5 (.int .u8 0) 1 rfl Try.underlying38 info_u8z rfl (by decide) (by omega) _ b8 (rowB []) _ _ _ (fun _=>True) (fun _=>False) rfl rfl HR810.out HC10.out (fun _ _ h=>h) (fun _ h=>h.elim) (fun _ _=>trivial) BS10.out BS10.out.size (by have:=HL8b.out;have:=HRL.out;omega) ?_;intro v11 w11 ho_ hb_ hg_ hat_;clear hg_ hat_;have HR11:=am ho_;have B11:=am hb_;clear ho_ hb_))
      go_ret2
      refine ⟨_,rfl,?_,below_step (below_step B02.out Bw3.out) B11.out⟩;rw [EB.out,EC.out];exact Kd.R_lower HR11.out (below_step B02.out Bw3.out).size
     have d0 : decide (x.call.f0 = 0) = false:=decide_eq_false h0;have d1 : (x.call.f0 == 0) = false:=beq_eq_false_iff_ne.2 h0
     have d2 : (x.call.f0 != 0) = true:=by rw [bne,d1];rfl
     have eC : callB x = encC 3 x.call:=by unfold callB;rw [if_neg h0]
     have hok : okT 3 x.call = true:=(isExt_call Hr.out).resolve_right (fun e=>h0 (by rw [e];rfl));have HCALL : Aside0 (althingref7_raw.f 200 x.call.f0 x.call.f1 x.call.f2 x.call.f3 = some (encC 3 x.call)):=⟨raw_tells 3 (by decide) x.call hok 200 (by decide)⟩;have hm:=encC_most 3 x.call hok;have hm2:=mostC_small (f:=3) (by decide);have EC:=am eC;obtain ⟨p,hp⟩ : ∃ p,p = encC 3 x.call:=⟨_,rfl⟩;rw [← hp] at hm EC HCALL;have HROW : Aside0 (althingref1_Row.f 40 p = some (rowB p)):=⟨refRow_tells 40 p (by omega) (by decide)⟩
     have hrl : (rowB p).length ≤ 5000:=by have:=sizeN_range (p.length : Int);rw [rowB_length];omega
     have HRL:=am hrl;clear h0 eC hok hm hm2 hp hrl
     go_wp2_with (first
      | (go_at_call 42;go_loud ((with_reducible refine (althingref7_raw.calls 200 _ _ _ A c x.call.f3 p w8 (Kd.C_below HC.out B08.out) Hc.out HCALL.out).mono ?_);rintro e w9 ⟨v9,rfl,hr_,hb_⟩;obtain ⟨A9,c9,hv_,hc_,hC_⟩:=Kd.R_reads hr_;subst hv_;have HC9:=am hC_;have Hc9:=am hc_;have B9:=am hb_;clear hr_ hb_ hC_ hc_))
      | (go_at_call 18;go_loud ((with_reducible refine (althingref1_Row.calls 40 A9 c9 p (rowB p) w9 HC9.out Hc9.out HROW.out).mono ?_);rintro e w10 ⟨v10,rfl,hr_,hb_⟩;obtain ⟨A10,c10,hv_,hc_,hC_⟩:=Kd.R_reads hr_;subst hv_;have HC10:=am hC_;have B10:=am hb_;clear hr_ hb_ hc_ hC_;have HR810:=am (Kd.R_below (Kd.R_below HR8b.out B9.out) B10.out);have BS10:=am (below_step (below_step B8.out B9.out) B10.out)))
      | ((with_reducible refine gate_builtin (b:= .append) (xs:=#[.tmp 59,.tmp 61]) rfl ?_);at_builtin;refine Kd.R_append_rows (Kd.int .u8) (w0:=w3) w3.heap.size rfl (.tmp 59) (.tmp 61) 38 5 (.int .u8 0) 1 rfl Try.underlying38 info_u8z rfl (by decide) (by omega) _ b8 (rowB p) _ _ _ (fun _=>True) (fun _=>False) rfl rfl HR810.out HC10.out (fun _ _ h=>h) (fun _ h=>h.elim) (fun _ _=>trivial) BS10.out BS10.out.size (by have:=HL8b.out;have:=HRL.out;omega) ?_;intro v11 w11 ho_ hb_ hg_ hat_;clear hg_ hat_;have HR11:=am ho_;have B11:=am hb_;clear ho_ hb_))
     go_ret2
     refine ⟨_,rfl,?_,below_step (below_step B02.out Bw3.out) B11.out⟩;rw [EB.out,EC.out];exact Kd.R_lower HR11.out (below_step B02.out Bw3.out).size
   | true=>
     have hfv:=HFV.out;simp only [Bool.false_eq_true,if_true,if_false] at hfv;subst hfv
     go_upto_region 6 with (fail)
     clear py;have r0:=(World.rangeAt_drew _ g1 0 _).2 HR2w.out;have hR2:=am r0;have L2 : Aside0 (g1 < w2.drew.heap.size):=⟨L2w.out⟩;refine start_ (n:=20) (S:=fun w'=>w'.rangeAt g1 0 X) (ds:=[]) (bl 20 0) (by kernel_rfl) rfl rfl r0 (fun hHeld=>?_);refine with_tabW refEnc_r6.tab refEnc_r6.bits (fun HT_ HW_=>?_);refine p_ HT_ 0 (some 13) refEnc_r6.l0 ?_;refine tk HT_ HW_ hHeld 1 (some 14) refEnc_r6.l1 (hr:=by intro w' hs_;obtain ⟨p0,p1,p2,p3,p4,p5,p6⟩:=x.at_head A c (HX.out ▸ hs_);go_simp;with_reducible rfl) (h:=?_);refine p_ HT_ 2 (some 15) refEnc_r6.l2 ?_;refine tk HT_ HW_ hHeld 3 (some 16) refEnc_r6.l3 (hr:=by intro w' hs_;obtain ⟨p0,p1,p2,p3,p4,p5,p6⟩:=x.at_head A c (HX.out ▸ hs_);go_simp;with_reducible rfl) (h:=?_);refine p_ HT_ 4 (some 17) refEnc_r6.l4 ?_;refine tk HT_ HW_ hHeld 5 (some 18) refEnc_r6.l5 (hr:=by intro w' hs_;obtain ⟨p0,p1,p2,p3,p4,p5,p6⟩:=x.at_head A c (HX.out ▸ hs_);go_simp;with_reducible rfl) (h:=?_);refine p_ HT_ 6 (some 19) refEnc_r6.l6 ?_;refine tk HT_ HW_ hHeld 7 (some 20) refEnc_r6.l7 (hr:=by intro w' hs_;obtain ⟨p0,p1,p2,p3,p4,p5,p6⟩:=x.at_head A c (HX.out ▸ hs_);go_simp;with_reducible rfl) (h:=?_);refine p_ HT_ 8 (some 21) refEnc_r6.l8 ?_;refine tk HT_ HW_ hHeld 9 (some 22) refEnc_r6.l9 (hr:=by intro w' hs_;obtain ⟨p0,p1,p2,p3,p4,p5,p6⟩:=x.at_head A c (HX.out ▸ hs_);go_simp;with_reducible rfl) (h:=?_);refine p_ HT_ 10 (some 23) refEnc_r6.l10 ?_;refine tk HT_ HW_ hHeld 11 (some 24) refEnc_r6.l11 (hr:=by intro w' hs_;obtain ⟨p0,p1,p2,p3,p4,p5,p6⟩:=x.at_head A c (HX.out ▸ hs_);go_simp;with_reducible rfl) (h:=?_);refine p_ HT_ 12 (some 25) refEnc_r6.l12 ?_;refine tk HT_ HW_ hHeld 13 (some 26) refEnc_r6.l13 (hr:=by intro w' hs_;obtain ⟨p0,p1,p2,p3,p4,p5,p6⟩:=x.at_head A c (HX.out ▸ hs_);go_simp;with_reducible rfl) (h:=?_);refine p_ HT_ 16 (some 29) refEnc_r6.l14 ?_;refine p_ HT_ 17 (some 30) refEnc_r6.l15 ?_;refine o_ HT_ 14 (some 27) refEnc_r6.l16 fun K hK=>?_;refine slice_step (cs:=#[.int .i64 x.kind,.int .i64 x.who,.int .i64 x.dest,.int .i64 x.amt,.int .i64 x.rfd,.int .i64 x.track,.int .i64 x.level]) (t:=3) (n:=7) (c:=7) (by first | (go_simp;done) | (go_simp;rfl)) ?_;intro gN hg_ w3 hbox_ hb_;replace hHeld:=rangeAt_below hHeld hb_ (by have:=L2.out;exact this);refine hK.out _ _ hHeld (fun hHeld=>?_);clear hK K;have BXgN:=am hbox_;have Bw3:=am hb_;clear hg_ hbox_ hb_;refine nm (some 27) ?_;refine o_ HT_ 15 (some 28) refEnc_r6.l17 fun K hK=>?_;refine gs Try.func15 #[.slice (some ⟨gN,0,none⟩) 7 7] ?_;refine (althingref1_Nums.calls 40 (some ⟨gN,0,none⟩) 7 (headE x) (numsB (headE x)) w3 (C_head (ns:=headE x) BXgN.out (show 7 ≤ 1000000 by decide)) (Nat.le_refl _) HP7.out).mono ?_;rintro e w4 ⟨v0_,rfl,hr_,hb_⟩;obtain ⟨A4,c4,hv_,hc_,hC_⟩:=Kd.R_reads hr_;subst hv_;replace hHeld:=rangeAt_below hHeld hb_ (Nat.lt_of_lt_of_le L2.out Bw3.out.size);have HR4:=am hr_;have Bw4:=am hb_;clear hr_ hb_ hc_ hC_;refine ⟨_,rfl,?_⟩;refine hK.out _ _ hHeld (fun hHeld=>?_);clear hK K;refine nm (some 28) ?_;refine o_ HT_ 18 (some 31) refEnc_r6.l18 fun K hK=>?_;refine Kd.R_append_rows_step (Kd.int .u8) (w0:=w3) w3.heap.size (by rfl) (.tmp 28) (.tmp 30) 38 5 (.int .u8 0) 1 rfl Try.underlying38 info_u8z rfl (by decide) (by omega) _ (numsB (headE x)) (sumI x.sum) _ _ _ (fun _=>True) (fun _=>False) rfl rfl HR4.out (C_sum x A c Hx.out (HX.out ▸ hHeld)) (fun _ _ h=>h) (fun _ h=>h.elim) (fun _ _=>trivial) Bw4.out Bw4.out.size HL32.out ?_;intro v5 w5 ho_ hb_ hg_ hat_;rw [← HB5.out] at ho_;clear hg_ hat_;replace hHeld:=rangeAt_below (rangeAt_below hR2.out Bw3.out L2.out) hb_ (Nat.lt_of_lt_of_le L2.out Bw3.out.size)
     obtain ⟨A5,c5,hv_,hc_,hC_⟩:=Kd.R_reads ho_;subst hv_;have HR5:=am ho_;have B5:=am hb_;clear ho_ hb_ hc_ hC_;refine hK.out _ _ hHeld (fun hHeld=>?_);clear hK K;refine nm (some 31) ?_;refine p_ HT_ 19 (some 5) refEnc_r6.l19 ?_;refine done_ (done_of HT_.out (by kernel_rfl)) ?_;have hR5:=am hHeld;clear HT_ HW_ hHeld HR4;have L5 : Aside0 (g1 < w5.heap.size):=⟨Nat.lt_of_lt_of_le (Nat.lt_of_lt_of_le L2.out Bw3.out.size) B5.out.size⟩;have B05:=am (below_step (below_step B02.out Bw3.out) B5.out);obtain ⟨p39,p40,p41,p42,p43,p44⟩:=x.at_vote A c Hx.out (HX.out ▸ hR5.out);clear p40
     go_upto_region 8 with (first
      | ((with_reducible refine gate_dst (N:=49) rfl ?_);refine slice_event' ?hg (N:=49) ?hd (cs:=#[.int .i64 x.vkind,.int .i64 x.va,.int .i64 x.vn,.int .i64 x.vs,.int .i64 x.vlevel,.int .i64 1]) (t:=3) (n:=6) (c:=6) ?hr ?_;(case hd=>rfl);(case hg=>rfl);(case hr=>first | (go_simp;done) | (go_simp;rfl));intro gV hg_ w6 hbox_ hb_;have BXV:=am hbox_;have B6:=am hb_;clear hg_ hbox_ hb_)
      | (go_at_call 15;go_loud (have hN_:=althingref1_Nums.calls 40 (some ⟨gV,0,none⟩) 6 [x.vkind,x.va,x.vn,x.vs,x.vlevel,1] b6 w6 (C_head (ns:=[x.vkind,x.va,x.vn,x.vs,x.vlevel,1]) BXV.out (show 6 ≤ 1000000 by decide)) (Nat.le_refl _) HP6.out;rw [show [x.vkind,x.va,x.vn,x.vs,x.vlevel,1].length = 6 from rfl] at hN_;(with_reducible refine hN_.mono ?_);clear hN_;rintro e w7 ⟨v7,rfl,hr_,hb_⟩;obtain ⟨A7,c7,hv_,hc_,hC_⟩:=Kd.R_reads hr_;subst hv_;have HC7:=am hC_;have Hc7:=am hc_;have B7:=am hb_;clear hr_ hb_ hC_ hc_;have HR57:=am (Kd.R_below (Kd.R_below HR5.out B6.out) B7.out);have BS7:=am (below_step (below_step B5.out B6.out) B7.out)))
      | ((with_reducible refine gate_builtin (b:= .append) (xs:=#[.tmp 32,.tmp 50]) rfl ?_);at_builtin;refine Kd.R_append_rows (Kd.int .u8) (w0:=w3) w3.heap.size rfl (.tmp 32) (.tmp 50) 38 5 (.int .u8 0) 1 rfl Try.underlying38 info_u8z rfl (by decide) (by omega) _ b5 b6 _ _ _ (fun _=>True) (fun _=>False) rfl rfl HR57.out HC7.out (fun _ _ h=>h) (fun _ h=>h.elim) (fun _ _=>trivial) BS7.out BS7.out.size (by have:=HL5.out;omega) ?_;intro v8 w8 ho_ hb_ hg_ hat_;clear hg_ hat_;obtain ⟨A8,c8,hv_,hc_,hC_⟩:=Kd.R_reads ho_;subst hv_;have HR8:=am ho_;have B8:=am hb_;clear ho_ hb_ hc_ hC_))
     clear p39 p41 p42 p43 p44;have HL8 : Aside0 ((b5 ++ b6).length ≤ 400):=⟨by have:=HL5.out;rw [List.length_append];omega⟩;have hR8:=am (rangeAt_below (rangeAt_below hR2.out Bw3.out L2.out) B8.out (Nat.lt_of_lt_of_le L2.out Bw3.out.size));have B08:=am (below_step (below_step B02.out Bw3.out) B8.out);obtain ⟨p45,p46,p47,p48⟩:=x.at_call A c Hx.out (HX.out ▸ hR8.out);obtain ⟨b8,hb8⟩ : ∃ b8,b8 = b5 ++ b6:=⟨_,rfl⟩;have hR8_:=HR8.out;rw [← hb8] at hR8_;have HR8b:=am hR8_;have HL8b : Aside0 (b8.length ≤ 400):=⟨by rw [hb8];exact HL8.out⟩
     have hlen8 : b5.length + b6.length = b8.length:=by rw [hb8,List.length_append]
     rw [hlen8]
     have eB : bytesE x = b8 ++ rowB (callB x):=by
      rw [hb8,HB6.out,HB5.out]
      unfold bytesE
      rw [Hr.out,if_pos rfl]
      unfold encE
      simp only [List.append_assoc]
     have EB:=am eB;clear eB HR8 HP6 HP7 HL32 hR8_ HL8 hb8 hlen8
     by_cases h0 : x.call.f0 = 0
     ·have d0 : decide (x.call.f0 = 0) = true:=decide_eq_true h0;have d1 : (x.call.f0 == 0) = true:=beq_iff_eq.2 h0
      have d2 : (x.call.f0 != 0) = false:=by rw [bne,d1];rfl
      have eC : callB x = []:=by unfold callB;rw [if_pos h0]
      have EC:=am eC;have HROW : Aside0 (althingref1_Row.f 40 [] = some (rowB [])):=⟨refRow_tells 40 [] (by decide) (by decide)⟩
      have hrl : (rowB []).length ≤ 10:=by decide
      have HRL:=am hrl;clear h0 eC hrl
      go_wp2_with (first
       | (go_at_call 18;go_loud (have hR_:=(althingref1_Row.calls 40 none 0 [] (rowB []) w8 (Kd.C_nil _ _) (Nat.le_refl _) HROW.out);rw [show ([] : List Int).length = 0 from rfl] at hR_;(with_reducible refine hR_.mono ?_);clear hR_;rintro e w10 ⟨v10,rfl,hr_,hb_⟩;obtain ⟨A10,c10,hv_,hc_,hC_⟩:=Kd.R_reads hr_;subst hv_;have HC10:=am hC_;have B10:=am hb_;clear hr_ hb_ hc_ hC_;have HR810:=am (Kd.R_below HR8b.out B10.out);have BS10:=am (below_step B8.out B10.out)))
       | ((with_reducible refine gate_builtin (b:= .append) (xs:=#[.tmp 59,.tmp 61]) rfl ?_);at_builtin;refine Kd.R_append_rows (Kd.int .u8) (w0:=w3) w3.heap.size rfl (.tmp 59) (.tmp 61) 38 5 (.int .u8 0) 1 rfl Try.underlying38 info_u8z rfl (by decide) (by omega) _ b8 (rowB []) _ _ _ (fun _=>True) (fun _=>False) rfl rfl HR810.out HC10.out (fun _ _ h=>h) (fun _ h=>h.elim) (fun _ _=>trivial) BS10.out BS10.out.size (by have:=HL8b.out;have:=HRL.out;omega) ?_;intro v11 w11 ho_ hb_ hg_ hat_;clear hg_ hat_;have HR11:=am ho_;have B11:=am hb_;clear ho_ hb_))
      go_ret2
      refine ⟨_,rfl,?_,below_step (below_step B02.out Bw3.out) B11.out⟩;rw [EB.out,EC.out];exact Kd.R_lower HR11.out (below_step B02.out Bw3.out).size
     have d0 : decide (x.call.f0 = 0) = false:=decide_eq_false h0;have d1 : (x.call.f0 == 0) = false:=beq_eq_false_iff_ne.2 h0
     have d2 : (x.call.f0 != 0) = true:=by rw [bne,d1];rfl
     have eC : callB x = encC 3 x.call:=by unfold callB;rw [if_neg h0]
     have hok : okT 3 x.call = true:=(isExt_call Hr.out).resolve_right (fun e=>h0 (by rw [e];rfl));have HCALL : Aside0 (althingref7_raw.f 200 x.call.f0 x.call.f1 x.call.f2 x.call.f3 = some (encC 3 x.call)):=⟨raw_tells 3 (by decide) x.call hok 200 (by decide)⟩;have hm:=encC_most 3 x.call hok;have hm2:=mostC_small (f:=3) (by decide);have EC:=am eC;obtain ⟨p,hp⟩ : ∃ p,p = encC 3 x.call:=⟨_,rfl⟩;rw [← hp] at hm EC HCALL;have HROW : Aside0 (althingref1_Row.f 40 p = some (rowB p)):=⟨refRow_tells 40 p (by omega) (by decide)⟩
     have hrl : (rowB p).length ≤ 5000:=by have:=sizeN_range (p.length : Int);rw [rowB_length];omega
     have HRL:=am hrl;clear h0 eC hok hm hm2 hp hrl
     go_wp2_with (first
      | (go_at_call 42;go_loud ((with_reducible refine (althingref7_raw.calls 200 _ _ _ A c x.call.f3 p w8 (Kd.C_below HC.out B08.out) Hc.out HCALL.out).mono ?_);rintro e w9 ⟨v9,rfl,hr_,hb_⟩;obtain ⟨A9,c9,hv_,hc_,hC_⟩:=Kd.R_reads hr_;subst hv_;have HC9:=am hC_;have Hc9:=am hc_;have B9:=am hb_;clear hr_ hb_ hC_ hc_))
      | (go_at_call 18;go_loud ((with_reducible refine (althingref1_Row.calls 40 A9 c9 p (rowB p) w9 HC9.out Hc9.out HROW.out).mono ?_);rintro e w10 ⟨v10,rfl,hr_,hb_⟩;obtain ⟨A10,c10,hv_,hc_,hC_⟩:=Kd.R_reads hr_;subst hv_;have HC10:=am hC_;have B10:=am hb_;clear hr_ hb_ hc_ hC_;have HR810:=am (Kd.R_below (Kd.R_below HR8b.out B9.out) B10.out);have BS10:=am (below_step (below_step B8.out B9.out) B10.out)))
      | ((with_reducible refine gate_builtin (b:= .append) (xs:=#[.tmp 59,.tmp 61]) rfl ?_);at_builtin;refine Kd.R_append_rows (Kd.int .u8) (w0:=w3) w3.heap.size rfl (.tmp 59) (.tmp 61) 38 5 (.int .u8 0) 1 rfl Try.underlying38 info_u8z rfl (by decide) (by omega) _ b8 (rowB p) _ _ _ (fun _=>True) (fun _=>False) rfl rfl HR810.out HC10.out (fun _ _ h=>h) (fun _ h=>h.elim) (fun _ _=>trivial) BS10.out BS10.out.size (by have:=HL8b.out;have:=HRL.out;omega) ?_;intro v11 w11 ho_ hb_ hg_ hat_;clear hg_ hat_;have HR11:=am ho_;have B11:=am hb_;clear ho_ hb_))
     go_ret2
     refine ⟨_,rfl,?_,below_step (below_step B02.out Bw3.out) B11.out⟩;rw [EB.out,EC.out];exact Kd.R_lower HR11.out (below_step B02.out Bw3.out).size
end Go.Proofs.Ytilckocpgififaa.G
