/- code.taken: bytes are taken as a call (laid by mktaken.py). -/
import Derived.Test.YtilckocpgififaaExHStep
import Derived.Test.YtilckocpgififaaExHTaken0
import Derived.Deep.RegionHeld3
import Derived.Test.YtilckocpgififaaExHIsExt
import Derived.Test.YtilckocpgififaaExPTake
namespace Go.Proofs.Ytilckocpgififaa.G
open Go.RowKit Go.Shelf Go.Proofs.YtilckocpgififaaW.PrintWords Go.Proofs.YtilckocpgififaaW.PrintLast Go.Proofs.YtilckocpgififaaW.PrintMore Go.Proofs.Ytilckocpgififaa.PNum
set_option linter.unusedVariables false
set_option linter.unusedSimpArgs false
section
variable {P : Program} {ops : Array Oper} {md : Region.Mode} {Q : Exit → Act → World → Prop} {S : World → Prop} {ds : List Nat}
theorem two_l {i j : Nat} {Ni Nj : Option Tmp} {oi oj : Oper} {fuel : Nat} {l : Array Bool} {a : Act} {w : World} (li lj : Array Bool) (hi : ops[i]? = some oi) (hj : ops[j]? = some oj) (hNi : oi.dst = Ni) (hNj : oj.dst = Nj)
 (hc : (Region.ready md ops l == [i,j] && l.setIfInBounds i true == li && l.setIfInBounds j true == lj) = true) (hdi : i ∈ ds) (hdj : j ∈ ds)
 (h1 : ∀ K : Act → World → Prop,Shut (∀ a' w',wpAnyLast P md ops Q S ds fuel li a' w' → K a' w') → if Region.wanted oi (yielded ops a.tmps) = true then Oper.wp P oi a w K Q else K (a.put Ni undef) w)
 (h2 : ∀ K : Act → World → Prop,Shut (∀ a' w',wpAnyLast P md ops Q S ds fuel lj a' w' → K a' w') → if Region.wanted oj (yielded ops a.tmps) = true then Oper.wp P oj a w K Q else K (a.put Nj undef) w) :
 wpAnyLast P md ops Q S ds (fuel + 1) l a w:=by
 subst hNi;subst hNj;simp only [Bool.and_eq_true,beq_iff_eq] at hc;obtain ⟨⟨h3,h4⟩,h5⟩:=hc;subst h4;subst h5;exact wpAnyLast_ready h3 (by simp) (AllReadyL.cons_last hi hdi (fun K hK=>h1 K hK) (AllReadyL.cons_last hj hdj (fun K hK=>h2 K hK) AllReadyL.nil))
end
def nextK (dec : List Int → Option S25) : Option S25 → Nat → List Int → Bool → List S25 → Option (List S25 × List Int × Bool)
 | none,_,_,_,_=>none
 | some k,n,l,ok,acc=>kidsA dec n l ok (acc ++ [k])
theorem kidsA_next (dec : List Int → Option S25) (n : Nat) (l : List Int) (ok : Bool) (acc : List S25) : kidsA dec (n + 1) l ok acc = nextK dec (dec (rowT l).1) n (l.drop (rowT l).2.1) (ok && (rowT l).2.2) acc:=by
 rw [kidsA]
 cases dec (rowT l).1 <;> rfl
def endK (a b c : Int) : Option (List S25 × List Int × Bool) → Option S25
 | none=>none
 | some (ks,r,ok)=>if (ok && decide (r.length = 0)) = true then some ⟨a,b,c,ks⟩ else none
theorem takenF_end (f : Nat) (l : List Int) (h : headOk l = true) (hn : ¬ kidsN l > 4) : takenF (f + 1) l = endK (valT l) (valT (restT l)) (valT (restT (restT l))) (kidsA (takenF f) (kidsN l).toNat (bodyT l) true []):=by
 rw [takenF,if_neg (by rw [h];simp;omega)]
 cases kidsA (takenF f) (kidsN l).toNat (bodyT l) true [] <;> rfl
theorem places_cells {w : World} {gp t gc gn : Nat} (h : w.heap[gp]? = some (.cells #[.pointer (some ⟨gc,0,none⟩),.pointer (some ⟨gc,1,none⟩),.pointer (some ⟨gc,2,none⟩),.pointer (some ⟨gn,0,none⟩)] t (0,0))) :
 ∀ i (hi : i < placesC.length),w.cell? ⟨gp,i,none⟩ = some (.pointer (some ⟨if (placesC[i]).1 = true then gc else gn,(placesC[i]).2,none⟩)):=by
 have hL : Lies w gp [.pointer (some ⟨gc,0,none⟩),.pointer (some ⟨gc,1,none⟩),.pointer (some ⟨gc,2,none⟩),.pointer (some ⟨gn,0,none⟩)]:=Lies.box h;intro i hi
 have : i = 0 ∨ i = 1 ∨ i = 2 ∨ i = 3:=by have : placesC.length = 4:=rfl;omega
 rcases this with rfl | rfl | rfl | rfl <;> exact hL.cell rfl
theorem places_in {L1 L2 : List Value} (h1 : L1.length = 4) (h2 : L2.length = 1) : ∀ i (h : i < placesC.length),(placesC[i]).2 < (if (placesC[i]).1 = true then L1 else L2).length:=by
 intro i hi
 have : i = 0 ∨ i = 1 ∨ i = 2 ∨ i = 3:=by have : placesC.length = 4:=rfl;omega
 rcases this with rfl | rfl | rfl | rfl <;> simp [placesC,h1,h2]
def taken_r12.T : Bool × List (List Nat × List Nat):=(true,[([],[]),([0],[0]),([],[]),([1],[1]),([],[]),([1,4,0,1,2,3,4],[1,4]),([5,3,0,1,2,3,4,5],[3,5]),([6,2,5,0,1,2,3,4,5],[2,6]),([0,1,2,3,4,5],[]),([8,5,5,0,1,2,3,4,5],[5,8])])
def taken_r12.B : List Nat:=[0,1,0,3,0,31,63,127,63,319]
theorem taken_r12.tab : rtab .any (opsOf Try.f52 12) = taken_r12.T:=by kernel_rfl
theorem taken_r12.bits : waitsOk taken_r12.T.2 taken_r12.B = true:=by kernel_rfl
def taken_r14.T : Bool × List (List Nat × List Nat):=(true,[([],[]),([],[]),([1],[1]),([0,2,0],[0]),([2,3,0,1,2,3],[2])])
def taken_r14.B : List Nat:=[0,0,2,7,15]
theorem taken_r14.tab : rtab .any (opsOf Try.f52 14) = taken_r14.T:=by kernel_rfl
theorem taken_r14.bits : waitsOk taken_r14.T.2 taken_r14.B = true:=by kernel_rfl
def taken_r12.l0 : Array Bool:=bl 10 1
def taken_r12.l1 : Array Bool:=bl 10 3
def taken_r12.l2 : Array Bool:=bl 10 7
def taken_r12.l3 : Array Bool:=bl 10 15
def taken_r12.l4 : Array Bool:=bl 10 31
def taken_r12.l5 : Array Bool:=bl 10 63
def taken_r12.l6 : Array Bool:=bl 10 127
def taken_r12.l7 : Array Bool:=bl 10 383
def taken_r12.l8 : Array Bool:=bl 10 1023
def taken_r12.l9 : Array Bool:=bl 10 511
def taken_r12.l10 : Array Bool:=bl 10 895
def taken_r14.l0 : Array Bool:=bl 5 1
def taken_r14.l1 : Array Bool:=bl 5 3
def taken_r14.l2 : Array Bool:=bl 5 7
def taken_r14.l3 : Array Bool:=bl 5 15
def taken_r14.l4 : Array Bool:=bl 5 31
set_option maxRecDepth 100000 in
set_option maxHeartbeats 32000000 in
theorem taken_step (f : Nat) (d : Int) (hd : d + f = 4) (hd0 : 0 ≤ d) (ih : ∀ g,f = g + 1 → TakenAt g (d + 1)) : TakenAt f d:=by
 intro A c l w hC hc hby hsh;obtain ⟨B,hBe⟩ : ∃ B,B = w.heap.size:=⟨_,rfl⟩;rw [← hBe];obtain ⟨Z,hZ⟩ : ∃ Z,Z = zeroC:=⟨_,rfl⟩
 have hZl : Z.length = 4:=by rw [hZ];rfl
 have hZo : ∀ v ∈ Z,v.oneCell' = true:=by rw [hZ];intro v hv;simp [zeroC] at hv;rcases hv with rfl | rfl | rfl | rfl <;> rfl
 have HAL : Aside0 (∀ w,(zeroValue 25).run Try.prog w = .ok (.agg Z.toArray) w):=⟨fun w=>by rw [hZ];exact zero_runC w⟩;have HBZ : Aside0 (∀ w,(Instr.build 25 #[]).run Try.prog w = .ok (.agg Z.toArray) w):=⟨fun w=>by rw [hZ];exact run_build w _ _ _ built_call⟩;have HZl:=am hZl;have HZo:=am hZo;have HZ:=am hZ;have HC:=am hC;have Hc:=am hc;have Hby:=am hby;have Hsh:=am hsh;have HBe:=am hBe;have HIH:=am ih;have Hfar : Aside0 (∀ ad,A = some ad → 0 < l.length → ad.block < B):=⟨fun ad e hn=>by rw [hBe];subst e;exact Kd.C_lt hC hn (by decide)⟩;clear hZ hZl hZo hC hby hsh hBe ih;go_enter Try.func52,Try.ntmps52
 go_upto_region 1 with ((with_reducible refine gate_dst (N:=4) rfl ?_);refine box_event ?hg (N:=4) ?hd (cs:=Z.toArray) (t:=25) ?hr ?_;(case hd=>rfl);(case hg=>rfl);(case hr=>first | (simp [execOp,Instr.alloc,HAL.out,newVar,newRow,go_sem];done) | (simp [execOp,Instr.alloc,HAL.out,newVar,newRow,go_sem];rfl) | (go_simp;done) | (go_simp;rfl));intro g4 hg_ w1 hbox_ hb_;have h4_ : Lies w1 g4 Z:=Lies.box hbox_;have G4:=am hg_;have L41:=am h4_;have B1:=am hb_;clear h4_;clear hg_ hbox_ hb_)
 go_upto_region 2 with ((with_reducible refine gate_dst (N:=13) rfl ?_);refine box_event ?hg (N:=13) ?hd (cs:=#[.slice A l.length c,.bool true]) (t:=73) ?hr ?_;(case hd=>rfl);(case hg=>rfl);(case hr=>first | (simp [execOp,Instr.alloc,HAL.out,newVar,newRow,go_sem];done) | (simp [execOp,Instr.alloc,HAL.out,newVar,newRow,go_sem];rfl) | (go_simp;done) | (go_simp;rfl));intro R hg_ w2 hbox_ hb_;have hr_ : Lies w2 R [.slice A l.length c,.bool true]:=Lies.box hbox_;have GR:=am hg_;have LR2:=am hr_;have B2:=am hb_;clear hr_;clear hg_ hbox_ hb_)
 go_upto_region 3 with (first
  | ((with_reducible refine gate_dst (N:=14) rfl ?_);refine Kd.event_run (v:= .agg Z.toArray) (w1:=w2) rfl (build_run0' rfl (HBZ.out w2)) ?_)
  | ((with_reducible refine gate_dst (N:=7) rfl ?_);refine box_event ?hg (N:=7) ?hd (cs:=Z.toArray) (t:=25) ?hr ?_;(case hd=>rfl);(case hg=>rfl);(case hr=>first | (simp [execOp,Instr.alloc,HAL.out,newVar,newRow,go_sem];done) | (simp [execOp,Instr.alloc,HAL.out,newVar,newRow,go_sem];rfl) | (go_simp;done) | (go_simp;rfl));intro gc hg_ w3 hbox_ hb_;have hr_ : Lies w3 gc Z:=Lies.box hbox_;have GC:=am hg_;have LC3:=am hr_;have B3:=am hb_;clear hr_;clear hg_ hbox_ hb_)
  | ((with_reducible refine gate_store (t:=25) (p:=7) rfl ?_);refine wpList_store_mid rfl 25 _ _ rfl gc 0 Z.toArray rfl rfl (by rw [List.size_toArray];exact LC3.out.there) (by rw [List.size_toArray,HZl.out];exact info_call) (all_oneCell_toArray HZo.out) ?_))
 have hgc4 : B ≤ g4:=by have:=G4.out;have:=HBe.out;omega
 have s1:=B1.out.size;have s2:=B2.out.size;have s3:=B3.out.size;have g4lt : g4 < w1.heap.size:=L41.out.lt (by rw [HZl.out];decide);have Rlt : R < w2.heap.size:=LR2.out.lt (by simp);have gclt : gc < w3.heap.size:=LC3.out.lt (by rw [HZl.out];decide);have e4:=G4.out;have eR:=GR.out;have eC:=GC.out;have eB:=HBe.out
 have n0_ : Lies (w3.setCells gc 0 Z) gc Z:=by have:=LC3.out.splice 0 Z (by omega);rwa [List.take_zero,List.nil_append,List.drop_of_length_le (by omega),List.append_nil] at this
 have k0_ : Kept (fun k=>k = gc) w3 (w3.setCells gc 0 Z):=kept_setCells gc 0 Z w3;have b0_ : Below B w (w3.setCells gc 0 Z):=below_setCells' gc (by omega) Z 0 w3 (by rw [eB];exact below_step (below_step B1.out B2.out) B3.out);have m4_:=((L41.out.below B2.out g4lt).below B3.out (by omega)).kept k0_ (by rw [HZl.out];decide) (by show ¬ g4 = gc;omega);have mR_:=(LR2.out.below B3.out Rlt).kept k0_ (by simp) (by show ¬ R = gc;omega);have z4_ : w3.heap.size ≤ (w3.setCells gc 0 Z).heap.size:=k0_.size;generalize World.setCells _ _ _ _ = w4 at n0_ k0_ b0_ m4_ mR_ z4_ ⊢;have LC4:=am n0_;have L44:=am m4_;have LR4:=am mR_;have B04:=am b0_;have Hlt : Aside0 (B ≤ g4 ∧ g4 < R ∧ R < gc ∧ gc < w4.heap.size ∧ B ≤ w4.heap.size):=⟨by omega,by omega,by omega,by omega,by omega⟩;clear n0_ k0_ b0_ m4_ mR_ z4_ s1 s2 s3 g4lt Rlt gclt e4 eR eC eB hgc4
 go_upto_region 4 with ((with_reducible refine gate_dst (N:=8) rfl ?_);refine box_event ?hg (N:=8) ?hd (cs:=#[.int .i64 0]) (t:=3) ?hr ?_;(case hd=>rfl);(case hg=>rfl);(case hr=>first | (simp [execOp,Instr.alloc,HAL.out,newVar,newRow,go_sem];done) | (simp [execOp,Instr.alloc,HAL.out,newVar,newRow,go_sem];rfl) | (go_simp;done) | (go_simp;rfl));intro gn hg_ w5 hbox_ hb_;have hr_ : Lies w5 gn [.int .i64 0]:=Lies.box hbox_;have GN:=am hg_;have LN5:=am hr_;have B5:=am hb_;have s8:=hr_.cell (i:=0) (v:= .int .i64 0) rfl;have f8:=hr_.frozen 0 (by simp);clear hr_;clear hg_ hbox_ hb_)
 have n0_ : Lies (w5.setCell ⟨gn,0,none⟩ (.int .i64 0)) gn [.int .i64 0]:=LN5.out.set 0 (by simp) _;have hln:=Hlt.out;have egn:=GN.out;have gnlt : gn < w5.heap.size:=LN5.out.lt (by simp);have s5:=B5.out.size;have b0_ : Below B w (w5.setCell ⟨gn,0,none⟩ (.int .i64 0)):=(B04.out.trans (B5.out.mono (by omega))).setCell (p:=⟨gn,0,none⟩) (by show B ≤ gn;omega) _;have m4_:=(L44.out.below B5.out (by omega)).set_far (b:=gn) (by omega) 0 (.int .i64 0);have mR_:=(LR4.out.below B5.out (by omega)).set_far (b:=gn) (by omega) 0 (.int .i64 0);have mC_:=(LC4.out.below B5.out (by omega)).set_far (b:=gn) (by omega) 0 (.int .i64 0)
 have z_ : (w5.setCell ⟨gn,0,none⟩ (.int .i64 0)).heap.size = w5.heap.size:=by rw [World.size_setCell]
 clear s8 f8;generalize World.setCell _ _ _ = w5a at n0_ b0_ m4_ mR_ mC_ z_ ⊢;have hC5 : Kd.C (Kd.int .u8) w5a A l.length l:=Kd.C_below HC.out (by rw [← HBe.out];exact b0_);have hra : ReadAt B w5a R gc gn A c l true Z [.int .i64 0]:=⟨mR_,Hc.out,hC5,Hfar.out,Hby.out,Hsh.out,mC_,n0_,by omega,by omega,by omega,by omega,by omega,by omega,by rw [HZl.out];decide,by simp⟩;have HRA:=am hra;have L45:=am m4_;have B05:=am b0_;have Hlt5 : Aside0 (gn < w5a.heap.size ∧ g4 < w5a.heap.size ∧ gc < gn):=⟨by omega,by omega,by omega⟩;clear n0_ b0_ m4_ mR_ mC_ z_ hC5 hra hln egn gnlt s5
 go_upto_region 5 with (first
  | ((with_reducible refine gate_dst (N:=19) rfl ?_);refine slice_event' ?hg (N:=19) ?hd (cs:=#[.pointer (some ⟨gc,0,none⟩),.pointer (some ⟨gc,1,none⟩),.pointer (some ⟨gc,2,none⟩),.pointer (some ⟨gn,0,none⟩)]) (t:=75) (n:=4) (c:=4) ?hr ?_;(case hd=>rfl);(case hg=>rfl);(case hr=>first | (go_simp;done) | (go_simp;rfl));intro gp hg_ w5b hbox_ hb_;have hpc_:=places_cells hbox_;have hpl_:=blk_lt hbox_;have HPC:=am hpc_;have HPL:=am hpl_;have GP:=am hg_;have B5b:=am hb_;clear hg_ hbox_ hb_ hpc_ hpl_)
  | (go_at_call 43;go_loud (have hN_:=(nums_calls B R gc gn gp 4 placesC A c l true Z [.int .i64 0] w5b (HRA.out.below B5b.out) (places_in HZl.out rfl) HPC.out ⟨HPL.out,by have:=GP.out;have:=HRA.out.reader.lt (by simp);omega,by have:=GP.out;have:=HRA.out.one.lt HRA.out.p1;omega,by have:=GP.out;have:=Hlt5.out;omega⟩ (by decide));rw [show placesC.length = 4 from rfl] at hN_;with_reducible refine hN_.mono ?_;clear hN_;rintro e w6 ⟨rfl,⟨A',c',hr_⟩,hk_⟩;rw [HZ.out,numsW_head] at hr_;have HR6:=am hr_;have HK6:=am hk_;clear hr_ hk_)))
 have b6_ : Below B w w6:=HK6.out.to_below (B05.out.trans (B5b.out.mono (by have:=B05.out.size;have:=Hlt.out;have:=HBe.out;omega))) (by have:=B05.out.size;have:=B5b.out.size;have:=HBe.out;omega) (fun k hk=>by have:=HRA.out.atR;have:=HRA.out.at1;have:=HRA.out.at2;rcases hk with hk | hk | hk <;> omega);have m4_ : Lies w6 g4 Z:=(L45.out.below B5b.out Hlt5.out.2.1).kept HK6.out (by rw [HZl.out];decide) (fun hk=>by have:=Hlt.out;have:=Hlt5.out;rcases hk with hk | hk | hk <;> omega);have L46:=am m4_;have B06:=am b6_;clear b6_ m4_ HK6 B5b GP HPC HPL L45 B05;have G4n : Aside0 (B ≤ g4):=⟨Hlt.out.1⟩;have Hne : Aside0 (g4 ≠ R ∧ g4 ≠ gc ∧ g4 ≠ gn):=⟨by have:=Hlt.out;omega,by have:=Hlt.out;omega,by have:=Hlt.out;have:=Hlt5.out;omega⟩;obtain ⟨a,ha⟩ : ∃ v,v = valT l:=⟨_,rfl⟩;obtain ⟨b,hb⟩ : ∃ v,v = valT (restT l):=⟨_,rfl⟩;obtain ⟨c3,hc3⟩ : ∃ v,v = valT (restT (restT l)):=⟨_,rfl⟩;obtain ⟨n,hn⟩ : ∃ v,v = kidsN l:=⟨_,rfl⟩;obtain ⟨body,hbody⟩ : ∃ v,v = bodyT l:=⟨_,rfl⟩;obtain ⟨hok,hhok⟩ : ∃ v,v = headOk l:=⟨_,rfl⟩;have hR6:=HR6.out;rw [← ha,← hb,← hc3,← hn,← hbody,← hhok] at hR6;replace HR6:=am hR6;obtain ⟨LC,hLC⟩ : ∃ LC : List Value,LC = [.int .i64 a,.int .i64 b,.int .i64 c3,.slice none 0 0]:=⟨_,rfl⟩;have HLC:=am hLC;have HLCl : Aside0 (LC.length = 4):=⟨by rw [hLC];rfl⟩;have HLCo : Aside0 (∀ v ∈ LC,v.oneCell' = true):=⟨by rw [hLC];intro v hv;simp at hv;rcases hv with rfl | rfl | rfl | rfl <;> rfl⟩;have q1:=hR6.reader.cell (i:=1) (v:= .bool hok) rfl;have q2:=hR6.two.cell (i:=0) (v:= .int .i64 n) rfl;have Hn0 : Aside0 (0 ≤ n):=⟨by rw [hn];exact (numT_range (restT_bytes (restT_bytes (restT_bytes Hby.out)))).1⟩;have Ha:=am ha;have Hb:=am hb;have Hc3:=am hc3;have Hn:=am hn;have Hbody:=am hbody;have Hhok:=am hhok;clear hR6 ha hb hc3 hn hbody hhok hLC
 cases hok with
 | false=>
   have hnone : takenF f l = none:=by
    cases f with
    | zero=>rfl
    | succ g=>rw [takenF,if_pos (.inl Hhok.out.symm)]
   have HNO:=am hnone;clear hnone
   go_wp2_with (first
    | ((with_reducible refine gate_dst (N:=34) rfl ?_);refine wpList_load_mid rfl 25 _ rfl gc 0 rfl LC _ (by have:=HR6.out.one.range;rw [← HLC.out] at this;exact this) Try.underlying25 rfl (by rw [HLCl.out];exact info_call) ?_)
    | ((with_reducible refine gate_store (t:=25) (p:=4) rfl ?_);refine wpList_store_mid rfl 25 _ _ rfl g4 0 LC.toArray rfl rfl (by rw [List.size_toArray,HLCl.out];exact L46.out.part_there 0 4 (by rw [HZl.out];decide)) (by rw [List.size_toArray,HLCl.out];exact info_call) (all_oneCell_toArray HLCo.out) ?_))
   have BR:=World.rangeAt_setCells_same w6 g4 0 LC (by rw [HLCl.out];exact L46.out.part_there 0 4 (by rw [HZl.out];decide));have hres:=run_loadVar_mid (P:=Try.prog) (w6.setCells g4 0 LC) g4 0 25 LC _ BR Try.underlying25 rfl (by rw [HLCl.out];exact info_call);refine bodyPost_ret (results_cell_tmp rfl _ rfl hres) rfl ?_;refine ⟨⟨LC,by rw [HNO.out];rfl,HLCl.out,HLCo.out,fun x hx=>by rw [HNO.out] at hx;cases hx⟩,below_setCells' g4 G4n.out LC 0 w6 B06.out⟩
 | true=>
 by_cases h4 : n > 4
 ·have d4 : decide (n > 4) = true:=decide_eq_true h4
  have hnone : takenF f l = none:=by
   cases f with
   | zero=>rfl
   | succ g=>rw [takenF,if_pos (.inr (by rw [← Hn.out];exact h4))]
  have HNO:=am hnone;clear hnone
  go_wp2_with (first
   | ((with_reducible refine gate_dst (N:=34) rfl ?_);refine wpList_load_mid rfl 25 _ rfl gc 0 rfl LC _ (by have:=HR6.out.one.range;rw [← HLC.out] at this;exact this) Try.underlying25 rfl (by rw [HLCl.out];exact info_call) ?_)
   | ((with_reducible refine gate_store (t:=25) (p:=4) rfl ?_);refine wpList_store_mid rfl 25 _ _ rfl g4 0 LC.toArray rfl rfl (by rw [List.size_toArray,HLCl.out];exact L46.out.part_there 0 4 (by rw [HZl.out];decide)) (by rw [List.size_toArray,HLCl.out];exact info_call) (all_oneCell_toArray HLCo.out) ?_))
  have BR:=World.rangeAt_setCells_same w6 g4 0 LC (by rw [HLCl.out];exact L46.out.part_there 0 4 (by rw [HZl.out];decide));have hres:=run_loadVar_mid (P:=Try.prog) (w6.setCells g4 0 LC) g4 0 25 LC _ BR Try.underlying25 rfl (by rw [HLCl.out];exact info_call);refine bodyPost_ret (results_cell_tmp rfl _ rfl hres) rfl ?_;refine ⟨⟨LC,by rw [HNO.out];rfl,HLCl.out,HLCo.out,fun x hx=>by rw [HNO.out] at hx;cases hx⟩,below_setCells' g4 G4n.out LC 0 w6 B06.out⟩
 have d4 : decide (n > 4) = false:=decide_eq_false h4
 by_cases h3 : d > 3
 ·have d3 : decide (d > 3) = true:=decide_eq_true h3
  have hnone : takenF f l = none:=by
   cases f with
   | zero=>rfl
   | succ g=>omega
  have HNO:=am hnone;clear hnone
  go_wp2_with (first
   | ((with_reducible refine gate_dst (N:=34) rfl ?_);refine wpList_load_mid rfl 25 _ rfl gc 0 rfl LC _ (by have:=HR6.out.one.range;rw [← HLC.out] at this;exact this) Try.underlying25 rfl (by rw [HLCl.out];exact info_call) ?_)
   | ((with_reducible refine gate_store (t:=25) (p:=4) rfl ?_);refine wpList_store_mid rfl 25 _ _ rfl g4 0 LC.toArray rfl rfl (by rw [List.size_toArray,HLCl.out];exact L46.out.part_there 0 4 (by rw [HZl.out];decide)) (by rw [List.size_toArray,HLCl.out];exact info_call) (all_oneCell_toArray HLCo.out) ?_))
  have BR:=World.rangeAt_setCells_same w6 g4 0 LC (by rw [HLCl.out];exact L46.out.part_there 0 4 (by rw [HZl.out];decide));have hres:=run_loadVar_mid (P:=Try.prog) (w6.setCells g4 0 LC) g4 0 25 LC _ BR Try.underlying25 rfl (by rw [HLCl.out];exact info_call);refine bodyPost_ret (results_cell_tmp rfl _ rfl hres) rfl ?_;refine ⟨⟨LC,by rw [HNO.out];rfl,HLCl.out,HLCo.out,fun x hx=>by rw [HNO.out] at hx;cases hx⟩,below_setCells' g4 G4n.out LC 0 w6 B06.out⟩
 have d3 : decide (d > 3) = false:=decide_eq_false h3;obtain ⟨g,rfl⟩ : ∃ g,f = g + 1:=⟨f - 1,by omega⟩;have HI:=am (HIH.out g rfl)
 have dw : wrap64 (d + 1) = d + 1:=by unfold wrap64;omega
 obtain ⟨okk,hokk⟩ : ∃ okk : Nat → Prop,okk = fun k=>k ≠ R ∧ k ≠ gc ∧ k ≠ gn ∧ k ≠ g4:=⟨_,rfl⟩;have Hokk:=am hokk
 have Htf : Aside0 (takenF (g + 1) l = endK a b c3 (kidsA (takenF g) n.toNat body true [])):=⟨by
  rw [takenF_end g l Hhok.out.symm (by rw [← Hn.out];exact h4),← Hn.out,← Hbody.out,← Ha.out,← Hb.out,← Hc3.out]⟩
 clear hokk d4 d3 h3 LC HLC HLCl HLCo
 go_upto_region 7 with (fail)
 clear q1
 go_wp2
 go_loopw [36] (fun i wr=>∃ x : Int,i = .int .i64 x ∧ (0 ≤ x ∧ x ≤ n) ∧
  Aside0 (∃ A' c' l' ok' ks v3,ReadAt B wr R gc gn A' c' l' ok' [.int .i64 a,.int .i64 b,.int .i64 c3,v3] [.int .i64 n] ∧ Lies wr g4 Z ∧ k25.R 25 wr B okk v3 ks ∧ ks.length = x.toNat ∧
   kidsA (takenF g) (n - x).toNat l' ok' ks = kidsA (takenF g) n.toNat body true []) ∧ Aside0 (Below B w wr))
  (fun i _=>n.toNat - (intOf i).toNat)
 case atStart=>exact ⟨0,rfl,⟨by omega,Hn0.out⟩,⟨A',c',body,true,[],.slice none 0 0,HR6.out,L46.out,Kd.R_nil _ _ _ _ _,rfl,by rw [Int.sub_zero]⟩,B06⟩
 case round=>
 clear HR6 L46 B06 q2;clear A' c';obtain ⟨x,rfl,⟨hx0,hx1⟩,HV,HG⟩:=hrel;obtain ⟨A',c',l',ok',ks,v3,hRE,h4E,hRK,hkl,hE⟩:=HV.out;obtain ⟨A3,cc3,hv3,hcc3,_⟩:=Kd.R_reads hRK;subst hv3;obtain ⟨LC,hLC⟩ : ∃ LC : List Value,LC = [.int .i64 a,.int .i64 b,.int .i64 c3,.slice A3 ks.length cc3]:=⟨_,rfl⟩;have HLC:=am hLC;have HLCl : Aside0 (LC.length = 4):=⟨by rw [hLC];rfl⟩;have HLCo : Aside0 (∀ v ∈ LC,v.oneCell' = true):=⟨by rw [hLC];intro v hv;simp at hv;rcases hv with rfl | rfl | rfl | rfl <;> rfl⟩;have HRE:=am hRE;have H4E:=am h4E;have HRK0:=am hRK;have HKL:=am hkl;have HE:=am hE;clear hRE h4E hRK hkl hE HV hLC hcc3
 by_cases hlt : x < n
 rotate_left
 ·have d0 : decide (x < n) = false:=decide_eq_false hlt
  have hx9 : x = n:=by omega
  subst hx9;have hE:=HE.out;rw [Int.sub_self] at hE;have hE' : kidsA (takenF g) x.toNat body true [] = some (ks,l',ok'):=hE.symm;obtain ⟨fl,hfl⟩ : ∃ fl,(ok' && decide (l'.length = 0)) = fl:=⟨_,rfl⟩;have HTF : Aside0 (takenF (g + 1) l = if fl = true then some ⟨a,b,c3,ks⟩ else none):=⟨by rw [Htf.out,hE',← hfl];rfl⟩;have hwh:=whole_calls B R gc gn A' c' l' ok' _ _ wr.drew HRE.out.drew;rw [hfl] at hwh;have HWH:=am hwh;clear hwh hfl;clear hE hE' hlt d0
  ·have d0 : decide (x < x) = false:=decide_eq_false (by omega)
   go_upto_region 14 with (fail)
   refine start_ (n:=5) (S:=fun w'=>w'.rangeAt gc 0 LC) (ds:=[3]) (bl 5 0) (by kernel_rfl) rfl rfl (by have:=HRE.out.drew.one.range;rw [← HLC.out] at this;exact this) (fun hHeld=>?_);refine with_tabW taken_r14.tab taken_r14.bits (fun HT_ HW_=>?_);refine take_ (i:=0) (N:=some 58) (v:= .agg LC.toArray) (a':=?_) taken_r14.l0 rfl rfl (take_ofW HT_.out HW_.out (by kernel_rfl)) (fun _ _ _ h=>h) (Or.inl ⟨by rfl,?_⟩) hHeld ?_ ?_
   ·intro w' hs_;exact load_runO' (ty:=25) (y:= .tmp 7) (g:=gc) (off:=0) (L:=LC) rfl rfl hs_ Try.underlying25 rfl (by rw [HLCl.out];exact info_call)
   rotate_left
   ·simp only [Act.put,List.setIfInBounds_toArray,List.set_cons_zero,List.set_cons_succ,i64_w,i32_w]
    rfl
   refine p_ HT_ 1 (some 59) taken_r14.l1 ?_;refine o_ HT_ 2 (some 60) taken_r14.l2 fun K hK=>?_;refine gs Try.func46 #[.pointer (some ⟨R,0,none⟩)] ?_;refine (HWH.out).mono ?_;rintro e w12 ⟨rfl,rfl⟩;refine ⟨_,rfl,?_⟩;refine hK.out _ _ hHeld (fun hHeld=>?_);clear hK K;refine nm (some 60) ?_;refine last_ (i:=3) (N:=none) taken_r14.l3 rfl rfl (one_of HT_.out (by kernel_rfl)) (by decide) (fun K hK=>?_);refine skip_ (w1:=wr.drew.setCells g4 0 LC) (by rfl) rfl ?_ ?_
   ·exact store_runO' (x:= .tmp 4) (y:= .tmp 58) (off:=0) rfl rfl rfl (by rw [HLCl.out];exact H4E.out.drew.part_there 0 4 (by rw [HZl.out];decide)) (by rw [HLCl.out];exact info_call) HLCo.out
   refine hK.out _ _ ?_;clear hK K;refine p_ HT_ 4 (some 5) taken_r14.l4 ?_;refine done_ (done_of HT_.out (by kernel_rfl)) ?_;clear HT_ HW_ hHeld
   go_wp2
   have BR:=World.rangeAt_setCells_same wr.drew g4 0 LC (by rw [HLCl.out];exact H4E.out.drew.part_there 0 4 (by rw [HZl.out];decide));have hres:=run_loadVar_mid (P:=Try.prog) (wr.drew.setCells g4 0 LC) g4 0 25 LC _ BR Try.underlying25 rfl (by rw [HLCl.out];exact info_call);refine bodyPost_ret (results_cell_tmp rfl _ rfl hres) rfl ?_;refine ⟨⟨LC,?_,HLCl.out,HLCo.out,fun y hy=>?_⟩,below_setCells' g4 G4n.out LC 0 wr.drew (below_drew HG.out)⟩
   ·rw [HTF.out];cases fl <;> rfl
   ·rw [HTF.out] at hy;have hM:=k25_mkM (wr.drew.setCells g4 0 LC) B (fun _=>True) ⟨a,b,c3,ks⟩ (v3:= .slice A3 ks.length cc3) (Kd.R_mono (Kd.R_step HRK0.out (fun k ho hl=>(kept_setCells g4 0 LC wr.drew).block k hl (by rw [Hokk.out] at ho;exact ho.2.2.2))) (fun _ _=>trivial))
    cases fl with
    | false=>cases hy
    | true=>
      obtain rfl:=Option.some.inj hy;rw [HLC.out];rw [HLC.out] at hM;exact hM
 have d0 : decide (x < n) = true:=decide_eq_true hlt
 have xw : wrap64 (x + 1) = x + 1:=by unfold wrap64;omega
 obtain ⟨p,hp⟩ : ∃ p,(rowT l').1 = p:=⟨_,rfl⟩;obtain ⟨l2,hl2⟩ : ∃ q,l'.drop (rowT l').2.1 = q:=⟨_,rfl⟩;obtain ⟨ok2,hok2⟩ : ∃ q,(ok' && (rowT l').2.2) = q:=⟨_,rfl⟩;obtain ⟨r,hr⟩ : ∃ r,takenF g p = r:=⟨_,rfl⟩;have hrow:=row_calls B R gc gn A' c' l' ok' _ _ wr HRE.out;rw [hp,hl2,hok2] at hrow;have HROW:=am hrow;have hps:=rowT_size HRE.out.bytes;rw [hp] at hps;have hsh':=HRE.out.short;have HPB : Aside0 (IsBytes p ∧ p.length < 140737488355328):=⟨hps.2.2,by omega⟩
 have hstep : kidsA (takenF g) (n - x).toNat l' ok' ks = nextK (takenF g) r (n - (x + 1)).toNat l2 ok2 ks:=by
  rw [show (n - x).toNat = (n - (x + 1)).toNat + 1 by omega,kidsA_next,hp,hl2,hok2,hr]
 have HST:=am hstep;have HR:=am hr
 have hBw : B ≤ wr.heap.size:=by have:=HG.out.size;have:=HBe.out;omega
 have HBw:=am hBw;have q0:=HRE.out.two.cell (i:=0) (v:= .int .i64 n) rfl;clear hrow hps hsh' hstep hr hBw hp hl2 hok2
 go_upto_region 10 with (first
  | (go_at_call 45;go_loud (with_reducible refine HROW.out.mono ?_;rintro e w7 ⟨⟨A1,c1,rfl,hc1_,hC1_,hf1_⟩,⟨A2,c2,hr2_⟩,hk_⟩;have HC1:=am hc1_;have HCP:=am hC1_;have HR7:=am hr2_;have HK7:=am hk_;clear hc1_ hC1_ hf1_ hr2_ hk_))
  | (go_at_call 52;go_loud (have hT_:=HI.out A1 c1 p w7 HCP.out HC1.out HPB.out.1 HPB.out.2;with_reducible refine hT_.mono ?_;clear hT_;rintro e w8 ⟨⟨LK,rfl,hl_,ho_,hm_⟩,hb_⟩;rw [HR.out] at hm_ ⊢;have HLKl:=am hl_;have HLKo:=am ho_;have HMK:=am hm_;have B8:=am hb_;clear hl_ ho_ hm_ hb_))
  | ((with_reducible refine gate_dst (N:=9) rfl ?_);refine box_event ?hg (N:=9) ?hd (cs:=Z.toArray) (t:=25) ?hr ?_;(case hd=>rfl);(case hg=>rfl);(case hr=>first | (simp [execOp,Instr.alloc,HAL.out,newVar,newRow,go_sem];done) | (simp [execOp,Instr.alloc,HAL.out,newVar,newRow,go_sem];rfl) | (go_simp;done) | (go_simp;rfl));intro gk hg_ w9 hbox_ hb_;have hr_ : Lies w9 gk Z:=Lies.box hbox_;have GK:=am hg_;have LK9:=am hr_;have B9:=am hb_;clear hr_;clear hg_ hbox_ hb_)
  | ((with_reducible refine gate_store (t:=25) (p:=9) rfl ?_);refine wpList_store_mid rfl 25 _ _ rfl gk 0 LK.toArray rfl rfl (by rw [List.size_toArray,HLKl.out];exact LK9.out.part_there 0 4 (by rw [HZl.out];decide)) (by rw [List.size_toArray,HLKl.out];exact info_call) (all_oneCell_toArray HLKo.out) ?_))
 have z7:=HK7.out.size;have z8:=B8.out.size;have z9:=B9.out.size;have ek:=GK.out;have bw:=HBw.out;have hlt4:=Hlt.out;have hlt5:=Hlt5.out;have Rl:=HR7.out.reader.lt (by simp);have gcl:=HR7.out.one.lt HR7.out.p1;have gnl:=HR7.out.two.lt HR7.out.p2
 have n0_ : Lies (w9.setCells gk 0 LK) gk LK:=by have:=LK9.out.splice 0 LK (by rw [HLKl.out,HZl.out];decide);rwa [List.take_zero,List.nil_append,List.drop_of_length_le (by rw [HLKl.out,HZl.out];decide),List.append_nil] at this
 have k9_ : Kept (fun k=>k = gk) w9 (w9.setCells gk 0 LK):=kept_setCells gk 0 LK w9;have r0_:=((HR7.out.below B8.out).below B9.out).kept k9_ (fun k hk=>by have hk' : k = gk:=hk;omega) (by show ¬ R = gk;omega) (by show ¬ gc = gk;omega) (by show ¬ gn = gk;omega);have m7_ : Lies w7 g4 Z:=H4E.out.kept HK7.out (by rw [HZl.out];decide) (by show ¬ g4 = R;exact Hne.out.1);have g4l:=m7_.lt (by rw [HZl.out];decide);have m0_:=((m7_.below B8.out g4l).below B9.out (by omega)).kept k9_ (by rw [HZl.out];decide) (by show ¬ g4 = gk;omega);have rk7_ : k25.R 25 w7 B okk (.slice A3 ks.length cc3) ks:=Kd.R_step HRK0.out (fun k ho hl=>HK7.out.block k hl (by rw [Hokk.out] at ho;exact ho.1));have own7_ : ∀ k,(Value.slice A3 ks.length cc3).ownBlock = some k → k < w7.heap.size:=fun k hk=>(Kd.R_bound rk7_).1 k hk |>.2.2.1;have rk9_:=Kd.R_below (Kd.R_below rk7_ B8.out) B9.out
 have rk0_ : k25.R 25 (w9.setCells gk 0 LK) B (fun k=>okk k ∧ k ≠ gk) (.slice A3 ks.length cc3) ks:=by
  have h8:=Kd.R_below rk7_ B8.out;have h8b : k25.R 25 w8 B (fun k=>okk k ∧ k < w8.heap.size) (.slice A3 ks.length cc3) ks:=Kd.R_mono (Kd.R_bound h8) (fun k h=>⟨h.1,h.2.2.1⟩);have h9:=Kd.R_below h8b B9.out;exact Kd.R_mono (Kd.R_step h9 (fun k ho hl=>k9_.block k hl (by show ¬ k = gk;have:=ho.2;omega))) (fun k h=>⟨h.1,by have:=h.2;omega⟩)
 have b0_ : Below B w (w9.setCells gk 0 LK):=below_setCells' gk (by omega) LK 0 w9 (((HK7.out.to_below HG.out bw (fun k hk=>by have hk' : k = R:=hk;omega)).trans (B8.out.mono (by omega))).trans (B9.out.mono (by omega)))
 have mk_ : ∀ kx,r = some kx → k25.M (w9.setCells gk 0 LK) B (fun k=>w7.heap.size ≤ k ∧ k < w8.heap.size) kx LK:=fun kx hx=>by
  have h8:=HMK.out kx hx;have h8b : k25.M w8 B (fun k=>w7.heap.size ≤ k ∧ k < w8.heap.size) kx LK:=k25.M_lower (by omega) (k25.M_mono (fun k h=>⟨h.2.1,h.2.2.1⟩) (k25.M_bound h8));exact Kd.M_step (Kd.M_below h8b B9.out) (fun k ho hl=>k9_.block k hl (by show ¬ k = gk;omega))
 have z0_:=k9_.size;generalize World.setCells _ _ _ _ = w10 at n0_ k9_ r0_ m0_ rk0_ b0_ mk_ z0_ ⊢;have HLK:=am n0_;have HR10:=am r0_;have L410:=am m0_;have HRK:=am rk0_;have B010:=am b0_;have HM10:=am mk_;have HS10 : Aside0 (w8.heap.size ≤ w10.heap.size ∧ w7.heap.size ≤ w8.heap.size ∧ B ≤ w7.heap.size ∧ R < w7.heap.size ∧ gc < w7.heap.size ∧ gn < w7.heap.size ∧ g4 < w7.heap.size ∧ gk < w10.heap.size):=⟨by omega,by omega,by omega,Rl,gcl,gnl,g4l,n0_.lt (by rw [HLKl.out];decide)⟩;have HOWN:=am own7_;have HGKn : Aside0 (B ≤ gk ∧ w8.heap.size ≤ gk):=⟨by omega,by omega⟩;clear n0_ k9_ r0_ m7_ m0_ rk7_ own7_ rk9_ rk0_ b0_ mk_ z0_ z7 z8 z9 ek bw hlt4 hlt5 Rl gcl gnl g4l
 cases r with
 | none=>
   have hnn : takenF (g + 1) l = none:=by rw [Htf.out,← HE.out,HST.out];rfl
   have HNN:=am hnn;clear hnn
   go_wp2_with (first
    | ((with_reducible refine gate_dst (N:=48) rfl ?_);refine wpList_load_mid rfl 25 _ rfl gc 0 rfl LC _ (by have:=HR10.out.one.range;rw [← HLC.out] at this;exact this) Try.underlying25 rfl (by rw [HLCl.out];exact info_call) ?_)
    | ((with_reducible refine gate_store (t:=25) (p:=4) rfl ?_);refine wpList_store_mid rfl 25 _ _ rfl g4 0 LC.toArray rfl rfl (by rw [List.size_toArray,HLCl.out];exact L410.out.part_there 0 4 (by rw [HZl.out];decide)) (by rw [List.size_toArray,HLCl.out];exact info_call) (all_oneCell_toArray HLCo.out) ?_))
   have BR:=World.rangeAt_setCells_same w10 g4 0 LC (by rw [HLCl.out];exact L410.out.part_there 0 4 (by rw [HZl.out];decide));have hres:=run_loadVar_mid (P:=Try.prog) (w10.setCells g4 0 LC) g4 0 25 LC _ BR Try.underlying25 rfl (by rw [HLCl.out];exact info_call);refine bodyPost_ret (results_cell_tmp rfl _ rfl hres) rfl ?_;refine ⟨⟨LC,by rw [HNN.out];rfl,HLCl.out,HLCo.out,fun x hx=>by rw [HNN.out] at hx;cases hx⟩,below_setCells' g4 G4n.out LC 0 w10 B010.out⟩
 | some kx=>
   have hnx : kidsA (takenF g) (n - (x + 1)).toNat l2 ok2 (ks ++ [kx]) = kidsA (takenF g) n.toNat body true []:=by rw [← HE.out,HST.out];rfl
   have HNX:=am hnx;obtain ⟨okg,hokg⟩ : ∃ okg : Nat → Prop,okg = fun k=>okk k ∧ k ≠ gk:=⟨_,rfl⟩;have HRKd : Aside0 (k25.R 25 w10.drew B okg (.slice A3 ks.length cc3) ks):=⟨by rw [hokg];exact Kd.R_step HRK.out (fun k _ _=>rfl)⟩;have HBd : Aside0 (Below B w w10.drew):=⟨below_drew B010.out⟩
   have HFR : Aside0 (∀ k,w10.drew.heap.size ≤ k → okg k):=⟨fun k hk=>by
    have hk' : w10.heap.size ≤ k:=hk;have:=HS10.out;rw [hokg,Hokk.out]
    refine ⟨⟨?_,?_,?_,?_⟩,?_⟩ <;> omega⟩
   have HKL4 : Aside0 (ks.length ≤ 4):=⟨by have:=HKL.out;omega⟩
   have hoq : ∀ k,okg k → k ≠ R ∧ k ≠ gc ∧ k ≠ gn ∧ k ≠ g4:=fun k hk=>by rw [hokg,Hokk.out] at hk;exact hk.1
   have hown : ∀ k,(Value.slice A3 ks.length cc3).ownBlock = some k → okg k ∧ B ≤ k:=fun k hk=>⟨HRKd.out.1 k hk,Kd.R_base HRKd.out k hk⟩
   have HAP : Aside0 (∀ w11,w10.drew.grownBy w11 (Value.slice A3 ks.length cc3).ownBlock → w11.cell? ⟨gc,3,none⟩ = some (.slice A3 ks.length cc3) ∧ w11.rangeAt gk 0 LK):=⟨fun w11 hg=>by
    have hk:=Kept.of_grown hg
    exact ⟨(HR10.out.drew.one.kept hk HR10.out.p1 (fun e=>(hoq gc (hown gc e.symm).1).2.1 rfl)).cell (i:=3) rfl,(HLK.out.drew.kept hk (by rw [HLKl.out];decide) (fun e=>by have:=(hown gk e.symm).1;rw [hokg] at this;exact this.2 rfl)).range⟩⟩
   have HPUT:=am (fun (w11 : World) (bv cap : Nat) (hRA : k25.R 25 w11 B okg (.slice (some ⟨bv,0,none⟩) (ks.length + 1) cap) (ks ++ [z25])) (hB : Below B w w11) (hg : w10.drew.grownBy w11 (Value.slice A3 ks.length cc3).ownBlock)
    (hat : (Value.slice (some ⟨bv,0,none⟩) (ks.length + 1) cap).ownBlock = (Value.slice A3 ks.length cc3).ownBlock ∨ ∃ q,(Value.slice (some ⟨bv,0,none⟩) (ks.length + 1) cap).ownBlock = some q ∧ w10.drew.heap.size ≤ q)=>
    grow_kids (okK:=fun k=>w7.heap.size ≤ k ∧ k < w8.heap.size) HR10.out.drew L410.out.drew (by rw [HZl.out];decide) Hne.out hoq (Kd.M_step (w1:=w10.drew) (HM10.out kx rfl) (fun k _ _=>rfl)) (fun k hk=>by
     have:=HS10.out;have hg4:=HGKn.out;refine ⟨?_,?_,fun e=>?_⟩
     ·rw [hokg,Hokk.out];refine ⟨⟨?_,?_,?_,?_⟩,?_⟩ <;> omega
     ·show k < w10.heap.size;omega
     ·have:=HOWN.out k e.symm;omega) hown hRA hB (by show B ≤ w10.heap.size;have:=HS10.out;omega) hg hat)
   rw [← show okg = (fun k=>okk k ∧ k ≠ gk) from hokg] at HRK
   have hmonog : ∀ k,okg k → okk k:=fun k h=>by rw [hokg] at h;exact h.1
   have HMG:=am hmonog;clear hnx hoq hown hokg hmonog;have s3 : w10.drew.cell? ⟨gc,3,none⟩ = some (.slice A3 ks.length cc3):=HR10.out.drew.one.cell (i:=3) rfl
   go_upto_region 12 with (fail)
   refine start_ (n:=10) (S:=fun w'=>w'.cell? ⟨gc,3,none⟩ = some (.slice A3 ks.length cc3) ∧ w'.rangeAt gk 0 LK) (ds:=[7,9]) (bl 10 0) (by kernel_rfl) rfl rfl ⟨s3,(World.rangeAt_drew _ _ _ _).2 HLK.out.range⟩ (fun hHeld=>?_);refine with_tabW taken_r12.tab taken_r12.bits (fun HT_ HW_=>?_);refine p_ HT_ 0 (some 49) taken_r12.l0 ?_;refine tk HT_ HW_ hHeld 1 (some 50) taken_r12.l1 (hr:=by intro w' hs_;obtain ⟨s0,s1⟩:=hs_;go_simp;with_reducible rfl) (h:=?_);refine take_ (i:=2) (N:=some 51) (v:= .agg LK.toArray) (a':=?_) taken_r12.l2 rfl rfl (take_ofW HT_.out HW_.out (by kernel_rfl)) (fun _ _ _ h=>h) (Or.inl ⟨by rfl,?_⟩) hHeld ?_ ?_
   ·intro w' hs_;exact load_runO' (ty:=25) (y:= .tmp 9) (g:=gk) (off:=0) (L:=LK) rfl rfl hs_.2 Try.underlying25 rfl (by rw [HLKl.out];exact info_call)
   rotate_left
   ·simp only [Act.put,List.setIfInBounds_toArray,List.set_cons_zero,List.set_cons_succ,i64_w,i32_w]
    rfl
   refine p_ HT_ 3 (some 52) taken_r12.l3 ?_;refine o_ HT_ 4 (some 53) taken_r12.l4 fun K hK=>?_;refine value_ (v:= .slice (some ⟨w10.drew.heap.size,0,none⟩) 1 1) (w1:=w10.drew.alloc (.cells zeroC.toArray 25)) (by rfl) rfl ?_ ?_
   ·go_simp
    try rfl
   have hb_ : Below w10.drew.heap.size w10.drew (w10.drew.alloc (.cells zeroC.toArray 25)):=below_alloc (Below.refl _ _) _;have hHeld : (w10.drew.alloc (.cells zeroC.toArray 25)).cell? ⟨gc,3,none⟩ = some (.slice A3 ks.length cc3) ∧ (w10.drew.alloc (.cells zeroC.toArray 25)).rangeAt gk 0 LK:=⟨(HR10.out.drew.below hb_).one.cell (i:=3) rfl,(HLK.out.drew.below hb_ (HLK.out.drew.lt (by rw [HLKl.out];decide))).range⟩;clear hb_;refine hK.out _ _ hHeld (fun hHeld=>?_);clear hK K;refine nm (some 53) ?_;refine o_ HT_ 5 (some 54) taken_r12.l5 fun K hK=>?_;refine Kd.R_append_step k25 (w0:=w) B (by rfl) (.tmp 50) (.tmp 53) 23 25 (.agg zeroC.toArray) 48 rfl Try.underlying23 info_callz rfl (by decide) (by decide) (.slice A3 ks.length cc3) ks z25 zeroC okg (fun _=>False) rfl rfl (zero_M _ _ _) (fun _ h=>h.elim) HFR.out HRKd.out HBd.out (by have:=HS10.out;show B ≤ w10.heap.size;omega) (by have:=HKL4.out;omega) ?_;intro v1 w11 hR_ hb_ hg_ hat_;obtain ⟨bv,cap,hv_,hcap_⟩:=R_shape hR_ (by simp) (by decide);subst hv_;rw [List.length_append,show ([z25] : List S25).length = 1 from rfl] at hR_ hcap_ hat_ ⊢;have hHeld : w11.cell? ⟨gc,3,none⟩ = some (.slice A3 ks.length cc3) ∧ w11.rangeAt gk 0 LK:=HAP.out _ hg_;have HGK:=am (HPUT.out w11 bv cap hR_ hb_ hg_ hat_);clear hR_ hb_ hg_ hat_;refine hK.out _ _ hHeld (fun hHeld=>?_);clear hK K;refine nm (some 54) ?_;refine pure_ (i:=6) (N:=some 55) (v:= .pointer (some ⟨bv,ks.length * 4,none⟩)) (a':=?_) taken_r12.l6 rfl rfl (any_of HT_.out (by kernel_rfl)) (fun _ _ _ h=>h) (Or.inl ⟨by rfl,?_⟩) ?_ ?_
   ·intro w';go_simp;intro h_;exfalso;omega
   rotate_left
   ·simp only [Act.put,List.setIfInBounds_toArray,List.set_cons_zero,List.set_cons_succ,i64_w,i32_w]
    rfl
   refine p_ HT_ 8 (some 56) taken_r12.l7 ?_;refine two_l (i:=7) (j:=9) (Ni:=none) (Nj:=none) taken_r12.l9 taken_r12.l10 rfl rfl rfl rfl (two_of HT_.out (by kernel_rfl)) (by decide) (by decide) (fun K hK=>?_) (fun K hK=>?_)
   ·refine skip_ (w1:=w11.setCells bv (ks.length * 4) LK) (by rfl) rfl ?_ ?_
    ·exact store_runO' (x:= .tmp 55) (y:= .tmp 51) (off:=ks.length * 4) rfl rfl rfl (by rw [HLKl.out];exact HGK.out.1) (by rw [HLKl.out];exact info_call) HLKo.out
    refine hK.out _ _ ?_;clear hK K;have q3:=HGK.out.2.2.1.1;have f3:=HGK.out.2.2.1.2;refine last_ (i:=9) (N:=none) taken_r12.l8 rfl rfl (one_of HT_.out (by kernel_rfl)) (by decide) (fun K hK=>?_);refine skip_ (w1:=(w11.setCells bv (ks.length * 4) LK).setCell ⟨gc,3,none⟩ (.slice (some ⟨bv,0,none⟩) (ks.length + 1) cap)) (by rfl) rfl ?_ ?_
    ·go_simp
    refine hK.out _ _ ?_;clear hK K q3 f3;have HFN:=am (HGK.out.2.2.2.2 _ (.inl rfl));generalize World.setCell _ _ _ = wz at HFN ⊢;refine done_ (done_of HT_.out (by kernel_rfl)) ?_;clear HT_ HW_ hHeld
    go_wp2
    exact ⟨⟨x + 1,by first | rfl | (rw [xw]) | (simp [xw]),⟨by omega,by omega⟩,⟨A2,c2,l2,ok2,ks ++ [kx],.slice (some ⟨bv,0,none⟩) (ks.length + 1) cap,HFN.out.1,HFN.out.2.1,Kd.R_mono HFN.out.2.2.1 HMG.out,by rw [List.length_append];have:=HKL.out;have e1 : ([kx] : List S25).length = 1:=rfl;omega,HNX.out⟩,⟨HFN.out.2.2.2⟩⟩,by simp [intOf];omega⟩
   ·have q3:=hHeld.1;have f3:=HGK.out.2.1;refine skip_ (w1:=w11.setCell ⟨gc,3,none⟩ (.slice (some ⟨bv,0,none⟩) (ks.length + 1) cap)) (by rfl) rfl ?_ ?_
    ·go_simp
    refine hK.out _ _ ?_;clear hK K q3 f3;refine last_ (i:=7) (N:=none) taken_r12.l8 rfl rfl (one_of HT_.out (by kernel_rfl)) (by decide) (fun K hK=>?_);refine skip_ (w1:=(w11.setCell ⟨gc,3,none⟩ (.slice (some ⟨bv,0,none⟩) (ks.length + 1) cap)).setCells bv (ks.length * 4) LK) (by rfl) rfl ?_ ?_
    ·exact store_runO' (x:= .tmp 55) (y:= .tmp 51) (off:=ks.length * 4) rfl rfl rfl (by rw [HLKl.out];exact HGK.out.2.2.2.1) (by rw [HLKl.out];exact info_call) HLKo.out
    refine hK.out _ _ ?_;clear hK K;have HFN:=am (HGK.out.2.2.2.2 _ (.inr rfl));generalize World.setCells _ _ _ _ = wz at HFN ⊢;refine done_ (done_of HT_.out (by kernel_rfl)) ?_;clear HT_ HW_ hHeld
    go_wp2
    exact ⟨⟨x + 1,by first | rfl | (rw [xw]) | (simp [xw]),⟨by omega,by omega⟩,⟨A2,c2,l2,ok2,ks ++ [kx],.slice (some ⟨bv,0,none⟩) (ks.length + 1) cap,HFN.out.1,HFN.out.2.1,Kd.R_mono HFN.out.2.2.1 HMG.out,by rw [List.length_append];have:=HKL.out;have e1 : ([kx] : List S25).length = 1:=rfl;omega,HNX.out⟩,⟨HFN.out.2.2.2⟩⟩,by simp [intOf];omega⟩
theorem taken_at : ∀ (f : Nat) (d : Int),d + f = 4 → 0 ≤ d → TakenAt f d:=by
 intro f
 induction f with
 | zero=>intro d hd h0;exact taken_step 0 d hd h0 (fun g hg=>by omega)
 | succ f ih=>
   intro d hd h0;refine taken_step (f + 1) d hd h0 (fun g hg=>?_)
   have e : f = g:=by omega
   subst e;exact ih (d + 1) (by omega) (by omega)
end Go.Proofs.Ytilckocpgififaa.G
/- code.DecodeCall: bytes as a call, or refused. -/
namespace Go.Proofs.Ytilckocpgififaa.G
open Go.RowKit Go.Shelf Go.Proofs.YtilckocpgififaaW.PrintWords Go.Proofs.YtilckocpgififaaW.PrintLast Go.Proofs.YtilckocpgififaaW.PrintMore Go.Proofs.Ytilckocpgififaa.PNum
set_option linter.unusedVariables false
set_option linter.unusedSimpArgs false
def keepC : Option S25 → Option S25
 | some x=>if okT 3 x = true then some x else none
 | none=>none
def errOf {α : Type} : Option α → Int
 | some _=>0
 | none=>2
def decF (l : List Int) : Option S25:=keepC (takenF 4 l)
set_option maxRecDepth 100000 in
set_option maxHeartbeats 16000000 in
theorem decode_calls (A : Option Addr) (c : Nat) (l : List Int) (w : World) (hC : Kd.C (Kd.int .u8) w A l.length l) (hc : l.length ≤ c) (hb : IsBytes l) (hs : l.length < 140737488355328) :
 Calls Try.prog 25 #[.slice A l.length c] w fun e w'=>
  (∃ L : List Value,e = .returned (.tuple #[.agg L.toArray,.int .i64 (errOf (decF l))]) ∧ L.length = 4 ∧ (∀ v ∈ L,v.oneCell' = true) ∧ k25.M w' w.heap.size (fun _=>True) ((decF l).getD z25) L) ∧ Below w.heap.size w w':=by
 obtain ⟨Z,hZ⟩ : ∃ Z,Z = zeroC:=⟨_,rfl⟩
 have hZl : Z.length = 4:=by rw [hZ];rfl
 have hZo : ∀ v ∈ Z,v.oneCell' = true:=by rw [hZ];intro v hv;simp [zeroC] at hv;rcases hv with rfl | rfl | rfl | rfl <;> rfl
 have HAL : Aside0 (∀ w,(zeroValue 25).run Try.prog w = .ok (.agg Z.toArray) w):=⟨fun w=>by rw [hZ];exact zero_runC w⟩;have HBZ : Aside0 (∀ w,(Instr.build 25 #[]).run Try.prog w = .ok (.agg Z.toArray) w):=⟨fun w=>by rw [hZ];exact run_build w _ _ _ built_call⟩;have HZM : Aside0 (∀ w b ok,k25.M w b ok z25 Z):=⟨fun w b ok=>by rw [hZ];exact zero_M w b ok⟩;have HZl:=am hZl;have HZo:=am hZo;have HC:=am hC;have Hc:=am hc;have Hb:=am hb;have Hs:=am hs;clear hZ hZl hZo hC hc hb hs;go_enter Try.func25,Try.ntmps25
 go_upto_region 1 with ((with_reducible refine gate_dst (N:=2) rfl ?_);refine box_event ?hg (N:=2) ?hd (cs:=Z.toArray) (t:=25) ?hr ?_;(case hd=>rfl);(case hg=>rfl);(case hr=>first | (simp [execOp,Instr.alloc,HAL.out,newVar,newRow,go_sem];done) | (simp [execOp,Instr.alloc,HAL.out,newVar,newRow,go_sem];rfl));intro g2 hg_ w1 hbox_ hb_;have h2_ : Lies w1 g2 Z:=Lies.box hbox_;have G2:=am hg_;have L21:=am h2_;have B1:=am hb_;clear h2_;clear hg_ hbox_ hb_)
 go_upto_region 2 with (first
  | (go_at_call 52;have hT_:=taken_at 4 0 (by omega) (by omega) A c l w1 (Kd.C_below HC.out B1.out) Hc.out Hb.out Hs.out;with_reducible refine hT_.mono ?_;clear hT_;rintro e w2 ⟨⟨L,rfl,hLl_,hLo_,hM_⟩,hb_⟩;have HLl:=am hLl_;have HLo:=am hLo_;have HM:=am hM_;have B2:=am hb_;clear hLl_ hLo_ hM_ hb_)
  | ((with_reducible refine gate_dst (N:=4) rfl ?_);refine box_event ?hg (N:=4) ?hd (cs:=Z.toArray) (t:=25) ?hr ?_;(case hd=>rfl);(case hg=>rfl);(case hr=>first | (simp [execOp,Instr.alloc,HAL.out,newVar,newRow,go_sem];done) | (simp [execOp,Instr.alloc,HAL.out,newVar,newRow,go_sem];rfl));intro g4 hg_ w3 hbox_ hb_;have h4_ : Lies w3 g4 Z:=Lies.box hbox_;have G4:=am hg_;have L43:=am h4_;have B3:=am hb_;clear h4_;clear hg_ hbox_ hb_)
  | ((with_reducible refine gate_store (t:=25) (p:=4) rfl ?_);refine wpList_store_mid rfl 25 _ _ rfl g4 0 L.toArray rfl rfl (by rw [List.size_toArray,HLl.out,← HZl.out];exact L43.out.there) (by rw [List.size_toArray,HLl.out];exact info_call) (all_oneCell_toArray HLo.out) ?_))
 have s1:=B1.out.size;have s2:=B2.out.size;have s3:=B3.out.size;have e2:=G2.out;have e4:=G4.out;have g2lt : g2 < w1.heap.size:=L21.out.lt (by rw [HZl.out];decide);have g4lt : g4 < w3.heap.size:=L43.out.lt (by rw [HZl.out];decide)
 have n4_ : Lies (w3.setCells g4 0 L) g4 L:=by have:=L43.out.splice 0 L (by rw [HLl.out,HZl.out];decide);rwa [List.take_zero,List.nil_append,List.drop_of_length_le (by rw [HLl.out,HZl.out];decide),List.append_nil] at this
 have k_ : Kept (fun k=>k = g4) w3 (w3.setCells g4 0 L):=kept_setCells g4 0 L w3;have n2_:=((L21.out.below B2.out g2lt).below B3.out (by omega)).kept k_ (by rw [HZl.out];decide) (by show ¬ g2 = g4;omega);have b_ : Below w.heap.size w (w3.setCells g4 0 L):=below_setCells' g4 (by omega) L 0 w3 (below_step (below_step B1.out B2.out) B3.out)
 have m_ : ∀ x,takenF 4 l = some x → k25.M (w3.setCells g4 0 L) w1.heap.size (fun k=>k < w2.heap.size) x L:=fun x hx=>by
  have h:=k25.M_mono (fun k h=>h.2.2.1) (k25.M_bound (HM.out x hx));refine Kd.M_step (Kd.M_below h B3.out) (fun k ho hl=>k_.block k hl ?_)
  show ¬ k = g4
  omega
 have z_ : w3.heap.size ≤ (w3.setCells g4 0 L).heap.size:=k_.size;generalize World.setCells _ _ _ _ = w4 at n4_ n2_ b_ m_ k_ z_ ⊢;have L44:=am n4_;have L24:=am n2_;have B04:=am b_;have HM4:=am m_;have Hlt : Aside0 (w.heap.size ≤ g2 ∧ g2 < w1.heap.size ∧ w2.heap.size ≤ g4 ∧ w.heap.size ≤ w1.heap.size ∧ w1.heap.size ≤ w2.heap.size ∧ g4 < w4.heap.size ∧ w2.heap.size ≤ w4.heap.size):=⟨by omega,by omega,by omega,by omega,by omega,by omega,by omega⟩;clear n4_ n2_ b_ m_ k_ z_ s1 s2 s3 e2 e4 g2lt g4lt HM
 cases hT : takenF 4 l with
 | none=>
   have hD : decF l = none:=by unfold decF;rw [hT];rfl
   have HD:=am hD;have HT:=am hT;clear hT hD;simp only [Option.isSome_none]
   go_wp2_with (first
    | ((with_reducible refine gate_dst (N:=18) rfl ?_);refine Kd.event_run (v:= .agg Z.toArray) (w1:=w4) rfl (build_run0' rfl (HBZ.out w4)) ?_)
    | ((with_reducible refine gate_store (t:=25) (p:=2) rfl ?_);refine wpList_store_mid rfl 25 _ _ rfl g2 0 Z.toArray rfl rfl (by rw [List.size_toArray];exact L24.out.there) (by rw [List.size_toArray,HZl.out];exact info_call) (all_oneCell_toArray HZo.out) ?_))
   have BR:=World.rangeAt_setCells_same w4 g2 0 Z L24.out.there;have hres:=run_loadVar_mid (P:=Try.prog) (w4.setCells g2 0 Z) g2 0 25 Z _ BR Try.underlying25 rfl (by rw [HZl.out];exact info_call);refine bodyPost_ret (results_cell_tmp rfl _ rfl hres) rfl ?_;refine ⟨⟨Z,?_,HZl.out,HZo.out,?_⟩,below_setCells' g2 Hlt.out.1 Z 0 w4 B04.out⟩
   ·rw [HD.out];rfl
   ·rw [HD.out];exact HZM.out _ _ _
 | some x=>
   have HT:=am hT;have hM:=HM4.out x hT;obtain ⟨A3,c3,rfl,l3,hC3⟩:=k25_open (k25.K_of_M hM);have p0:=L44.out.cell (i:=0) rfl;have p1:=L44.out.cell (i:=1) rfl;have p2:=L44.out.cell (i:=2) rfl;have p3:=L44.out.cell (i:=3) rfl;have HC3:=am hC3;have Hl3:=am l3;have HM5:=am hM;clear hT hM hC3 l3;simp only [Option.isSome_some];obtain ⟨r,hr⟩ : ∃ r,okT 3 x = r:=⟨_,rfl⟩;have HR:=am hr;have hcall:=isCall_tells x;rw [hr] at hcall;have HCALL:=am hcall;clear hr hcall
   cases r with
   | false=>
     have HD : Aside0 (decF l = none):=⟨by unfold decF;rw [HT.out];show (if okT 3 x = true then some x else none) = none;rw [HR.out];rfl⟩
     go_upto_region 3 with (go_at_call 11;with_reducible refine (code_IsCall.calls _ _ _ A3 c3 x.f3 false w4 HC3.out Hl3.out HCALL.out).mono ?_;rintro e w5 ⟨rfl,hb5_⟩;have B5:=am hb5_;clear hb5_)
     have L25:=am (L24.out.below B5.out (by have:=Hlt.out;omega));have B05:=am (B04.out.trans (B5.out.mono B04.out.size))
     go_wp2_with (first
      | ((with_reducible refine gate_dst (N:=18) rfl ?_);refine Kd.event_run (v:= .agg Z.toArray) (w1:=w5) rfl (build_run0' rfl (HBZ.out w5)) ?_)
      | ((with_reducible refine gate_store (t:=25) (p:=2) rfl ?_);refine wpList_store_mid rfl 25 _ _ rfl g2 0 Z.toArray rfl rfl (by rw [List.size_toArray];exact L25.out.there) (by rw [List.size_toArray,HZl.out];exact info_call) (all_oneCell_toArray HZo.out) ?_))
     have BR:=World.rangeAt_setCells_same w5 g2 0 Z L25.out.there;have hres:=run_loadVar_mid (P:=Try.prog) (w5.setCells g2 0 Z) g2 0 25 Z _ BR Try.underlying25 rfl (by rw [HZl.out];exact info_call);refine bodyPost_ret (results_cell_tmp rfl _ rfl hres) rfl ?_;refine ⟨⟨Z,?_,HZl.out,HZo.out,?_⟩,below_setCells' g2 Hlt.out.1 Z 0 w5 B05.out⟩
     ·rw [HD.out];rfl
     ·rw [HD.out];exact HZM.out _ _ _
   | true=>
     have HD : Aside0 (decF l = some x):=⟨by unfold decF;rw [HT.out];show (if okT 3 x = true then some x else none) = some x;rw [HR.out];rfl⟩
     go_upto_region 4 with (go_at_call 11;with_reducible refine (code_IsCall.calls _ _ _ A3 c3 x.f3 true w4 HC3.out Hl3.out HCALL.out).mono ?_;rintro e w5 ⟨rfl,hb5_⟩;have B5:=am hb5_;clear hb5_)
     have L25:=am (L24.out.below B5.out (by have:=Hlt.out;omega));have L45:=am (L44.out.below B5.out (by have:=Hlt.out;omega));have B05:=am (B04.out.trans (B5.out.mono B04.out.size));clear p0 p1 p2 p3;obtain ⟨L,hL⟩ : ∃ L,L = [Value.int .i64 x.f0,.int .i64 x.f1,.int .i64 x.f2,.slice A3 x.f3.length c3]:=⟨_,rfl⟩;rw [← hL] at L45 HLl HLo HM5;clear hL
     go_wp2_with (first
      | ((with_reducible refine gate_dst (N:=19) rfl ?_);refine wpList_load_mid rfl 25 _ rfl g4 0 rfl L _ L45.out.range Try.underlying25 rfl (by rw [HLl.out];exact info_call) ?_)
      | ((with_reducible refine gate_store (t:=25) (p:=2) rfl ?_);refine wpList_store_mid rfl 25 _ _ rfl g2 0 L.toArray rfl rfl (by rw [List.size_toArray,HLl.out,← HZl.out];exact L25.out.there) (by rw [List.size_toArray,HLl.out];exact info_call) (all_oneCell_toArray HLo.out) ?_))
     have BR:=World.rangeAt_setCells_same w5 g2 0 L (by rw [HLl.out,← HZl.out];exact L25.out.there);have hres:=run_loadVar_mid (P:=Try.prog) (w5.setCells g2 0 L) g2 0 25 L _ BR Try.underlying25 rfl (by rw [HLl.out];exact info_call);refine bodyPost_ret (results_cell_tmp rfl _ rfl hres) rfl ?_;refine ⟨⟨L,?_,HLl.out,HLo.out,?_⟩,below_setCells' g2 Hlt.out.1 L 0 w5 B05.out⟩
     ·rw [HD.out];rfl
     ·rw [HD.out];have h1 : k25.M w4 w.heap.size (fun k=>w1.heap.size ≤ k ∧ k < w4.heap.size) x L:=k25.M_lower Hlt.out.2.2.2.1 (k25.M_mono (fun k h=>⟨h.2.1,h.2.2.1⟩) (k25.M_bound HM5.out));exact k25.M_mono (fun _ _=>trivial) (Kd.M_step (Kd.M_below h1 B5.out) (fun k ho hl=>(kept_setCells g2 0 L w5).block k hl (by show ¬ k = g2;have:=Hlt.out;have:=ho.1;omega)))
end Go.Proofs.Ytilckocpgififaa.G
/- code.named's contract: the kinds that copy the digest, and no kind (laid by mknamed34.py). -/
namespace Go.Proofs.Ytilckocpgififaa.G
open Go.Extern.Stop (cell)
open Go.RowKit Go.Proofs.YtilckocpgififaaW.PrintWords Go.Proofs.YtilckocpgififaaW.PrintLast Go.Proofs.YtilckocpgififaaW.PrintMore
set_option linter.unusedVariables false
set_option linter.unusedSimpArgs false
theorem cells_sum (y : Ext) (s : List UInt8) (A : Option Addr) (c : Nat) (hy : y.sum.length = 32) (hs : s.length = 32) : (y.cells A c).take 7 ++ s.map cell ++ (y.cells A c).drop (7 + (s.map cell).length) = ({ y with sum:=s } : Ext).cells A c:=by
 rw [List.length_map,hs]
 unfold Ext.cells
 rw [List.take_append_of_le_length (by simp),List.take_of_length_le (by simp),List.drop_append,List.drop_of_length_le (by simp),List.nil_append,List.drop_append,List.drop_of_length_le (by simp [hy]),List.nil_append,List.append_assoc]
 congr 2
 simp [hy]
theorem load_runO {P : Program} {o : Oper} {a : Act} {w : World} {ty : TypeId} {y : Operand} {g off : Nat} {L : List Value} {d : TypeDesc} (ho : o.op = .load ty y) (hx : a.eval y = .pointer (some ⟨g,off,none⟩)) (h : w.rangeAt g off L) (hu : P.underlying ty = some d) (hd : d.isRow = true) (hi : (P.info? ty).map (·.size) = some L.length) :
 (execOp a.eval o).run P w = .ok (.value (.agg L.toArray)) w:=by
 unfold execOp
 simp only [ho,hx,Instr.loadAt,Instr.sureAddr,Sem.run_bind,Sem.run_pure,Result.andThen_ok,run_loadVar_mid w g off ty L d h hu hd hi]
theorem store_runO {P : Program} {o : Oper} {a : Act} {w : World} {ty : TypeId} {x y : Operand} {g off : Nat} {L : List Value} (ho : o.op = .store ty x y) (hx : a.eval x = .pointer (some ⟨g,off,none⟩)) (hy : a.eval y = .agg L.toArray)
 (ht : w.there g off L.length) (hi : (P.info? ty).map (·.size) = some L.length) (h1 : ∀ v ∈ L,v.oneCell' = true) :
 (execOp a.eval o).run P w = .ok .skip (w.setCells g off L):=by
 unfold execOp
 simp only [ho,hx,hy,Instr.storeAt,Instr.sureAddr,Sem.run_bind,Sem.run_pure,Result.andThen_ok,run_storeVar_mid w g off ty L.toArray (by rw [List.size_toArray];exact ht) (by rw [List.size_toArray];exact hi) (all_oneCell_toArray h1)]
theorem zs_length : zSum.length = 32:=by decide
def named_r10.T : Bool × List (List Nat × List Nat):=(true,[([],[]),([0],[0]),([],[]),([2],[2]),([],[]),([4],[4]),([0,1],[]),([6,1,0,1],[1,6]),([0,1,2,3,6,7],[]),([8,3,7,0,1,2,3,6,7],[3,8]),([0,1,2,3,4,5,6,7,8,9],[]),([10,5,9,0,1,2,3,4,5,6,7,8,9],[5,10])])
def named_r10.B : List Nat:=[0,1,0,4,0,16,3,67,207,463,1023,2047]
theorem named_r10.tab : rtab .any (opsOf Try.f33 10) = named_r10.T:=by kernel_rfl
theorem named_r10.bits : waitsOk named_r10.T.2 named_r10.B = true:=by kernel_rfl
def named_r10.l0 : Array Bool:=bl 12 1
def named_r10.l1 : Array Bool:=bl 12 3
def named_r10.l2 : Array Bool:=bl 12 7
def named_r10.l3 : Array Bool:=bl 12 15
def named_r10.l4 : Array Bool:=bl 12 31
def named_r10.l5 : Array Bool:=bl 12 63
def named_r10.l6 : Array Bool:=bl 12 127
def named_r10.l7 : Array Bool:=bl 12 255
def named_r10.l8 : Array Bool:=bl 12 511
def named_r10.l9 : Array Bool:=bl 12 1023
def named_r10.l10 : Array Bool:=bl 12 2047
def named_r10.l11 : Array Bool:=bl 12 4095
set_option maxRecDepth 100000 in
set_option maxHeartbeats 16000000 in
theorem named_3 (x : Ext) (A : Option Addr) (c : Nat) (hk : x.kind = 3) (hx : x.sum.length = 32) (w : World) :
 Calls Try.prog 33 #[.agg (x.cells A c).toArray] w fun e w'=>e = .returned (.agg ({ ext0 3 x.who with sum:=x.sum }.cells none 0).toArray) ∧ Below w.heap.size w w':=by
 obtain ⟨X,hX⟩ : ∃ X,X = (x.cells A c).toArray:=⟨_,rfl⟩;obtain ⟨Z,hZ⟩ : ∃ Z,Z = (ext0 0 0).cells none 0:=⟨_,rfl⟩;obtain ⟨Y,hY⟩ : ∃ Y,Y = (ext0 3 x.who).cells none 0:=⟨_,rfl⟩
 have hZl : Z.length = 49:=by rw [hZ];rfl
 have hYl : Y.length = 49:=by rw [hY];rfl
 have hYo : ∀ v ∈ Y,v.oneCell' = true:=by rw [hY];exact Ext.cells_one _ _ _
 have hal : ∀ w,(zeroValue 33).run Try.prog w = .ok (.agg Z.toArray) w:=fun w=>by rw [hZ];exact zero_ext w
 have hbr : ∀ w,(Instr.build 33 #[(0,.int .i64 3),(1,.int .i64 x.who)]).run Try.prog w = .ok (.agg Y.toArray) w:=fun w=>run_build w _ _ _ (by rw [hY];exact built_ext 3 x.who);rw [← hX];have HX:=am hX;have HY:=am hY;have Hx:=am hx;have HZl:=am hZl;have HYl:=am hYl;have HYo:=am hYo;have HK:=am hk;clear hX hY hx hZ hZl hYl hYo hk;go_enter Try.func33,Try.ntmps33
 go_upto_region 1 with (first
  | ((with_reducible refine gate_dst (N:=1) rfl ?_);refine box_event ?hg (N:=1) ?hd (cs:=X) (t:=33) ?hr ?_;(case hd=>rfl);(case hg=>rfl);(case hr=>first | (go_simp;done) | (go_simp;rfl));intro g1 hg1 w1 hbox1 hb1;have BX1:=am (rangeAt_box (HX.out ▸ hbox1));have HXlt:=am (blk_lt hbox1);have HB1:=am hb1;clear hg1 hbox1 hb1)
  | ((with_reducible refine gate_dst (N:=2) rfl ?_);refine box_event ?hg (N:=2) ?hd (cs:=Z.toArray) (t:=33) ?hr ?_;(case hd=>rfl);(case hg=>rfl);(case hr=>first | (simp [execOp,Instr.alloc,hal,newVar,newRow,go_sem];done) | (simp [execOp,Instr.alloc,hal,newVar,newRow,go_sem];rfl));intro g2 hg2 w2 hbox2 hb2;have G2:=am hg2;have BZ2:=am (there_box hbox2);have HZlt:=am (blk_lt hbox2);have HB2:=am hb2;clear hg2 hbox2 hb2))
 obtain ⟨p0,p1,p2,p3,p4,p5,p6⟩:=x.at_head A c (rangeAt_below BX1.out HB2.out HXlt.out);rw [HK.out] at p0
 go_upto_region 2 with (first
  | ((with_reducible refine gate_dst (N:=8) rfl ?_);refine Kd.event_run (v:= .agg Y.toArray) (w1:=w2) rfl (by first | (simp [execOp,hbr,go_sem];done) | (simp [execOp,hbr,go_sem];rw [HY.out];rfl)) ?_)
  | ((with_reducible refine gate_dst (N:=3) rfl ?_);refine box_event ?hg (N:=3) ?hd (cs:=Z.toArray) (t:=33) ?hr ?_;(case hd=>rfl);(case hg=>rfl);(case hr=>first | (simp [execOp,Instr.alloc,hal,newVar,newRow,go_sem];done) | (simp [execOp,Instr.alloc,hal,newVar,newRow,go_sem];rfl));intro g3 hg3 w3 hbox3 hb3;have G3:=am hg3;have BZ3:=am (there_box hbox3);have HYlt:=am (blk_lt hbox3);have HB3:=am hb3;clear hg3 hbox3 hb3)
  | ((with_reducible refine gate_store (t:=33) (p:=3) rfl ?_);refine wpList_store_mid rfl 33 _ _ rfl g3 0 Y.toArray rfl rfl (by rw [List.size_toArray,HYl.out,← HZl.out];exact BZ3.out) (by rw [List.size_toArray,HYl.out];exact info_ext') (all_oneCell_toArray HYo.out) ?_))
 have ne13 : g1 ≠ g3:=by have:=G3.out;have:=HB2.out.size;have:=HXlt.out;omega
 have ne23 : g2 ≠ g3:=by have:=G3.out;have:=HZlt.out;omega
 have BX3:=rangeAt_below (rangeAt_below BX1.out HB2.out HXlt.out) HB3.out (by have:=HB2.out.size;have:=HXlt.out;omega);have BX4:=am (World.rangeAt_setCells_apart BX3 g3 0 Y (.inl ne13));have BY4:=am (World.rangeAt_setCells_same w3 g3 0 Y (by rw [HYl.out,← HZl.out];exact BZ3.out));have TY4:=am (World.there_setCells BZ3.out g3 0 Y);have TZ3 : w3.there g2 0 Z.length:=fun j hj=>⟨by rw [HB3.out.cell (p:=⟨g2,0 + j,none⟩) HZlt.out];exact (BZ2.out j hj).1,by rw [HB3.out.frozen (p:=⟨g2,0 + j,none⟩) HZlt.out];exact (BZ2.out j hj).2⟩;have TZ4:=am (World.there_setCells TZ3 g3 0 Y);have HB3a:=below_step (below_step HB1.out HB2.out) HB3.out;have HB4:=am (below_setCells g3 (by have:=G3.out;have:=(below_step HB1.out HB2.out).size;omega) Y 0 w3 HB3a)
 have s1 : w.heap.size ≤ g2:=by have:=G2.out;have:=HB1.out.size;omega
 have s2 : w.heap.size ≤ g3:=by have:=G3.out;have:=(below_step HB1.out HB2.out).size;omega
 clear BX3 TZ3 HB3a p0 p1 p2 p3 p4 p5 p6;generalize w3.setCells g3 0 Y = w4 at BX4 BY4 TY4 TZ4 HB4 ⊢;obtain ⟨p0,p1,p2,p3,p4,p5,p6⟩:=x.at_head A c BX4.out;rw [HK.out] at p0;have LY4 : Lies w4 g3 Y:=⟨BY4.out,by have:=TY4.out;rwa [HZl.out,← HYl.out] at this⟩;obtain ⟨SL,hSL⟩ : ∃ SL,SL = x.sum.map cell:=⟨_,rfl⟩
 have hSLl : SL.length = 32:=by rw [hSL,List.length_map];exact Hx.out
 have hSLo : ∀ v ∈ SL,v.oneCell' = true:=by rw [hSL];intro v hv;obtain ⟨b,_,rfl⟩:=List.mem_map.1 hv;rfl
 have hRS : w4.rangeAt g1 7 SL:=by rw [hSL];exact x.at_sum A c BX4.out
 have HSL:=am hSL;have HSLl:=am hSLl;have HSLo:=am hSLo;have HRS:=am hRS;have HLY4:=am LY4;clear hSL hSLl hSLo hRS LY4
 go_upto_region 22 with (first
  | ((with_reducible refine gate_dst (N:=27) rfl ?_);refine wpList_load_mid rfl 29 _ rfl g1 7 rfl SL _ HRS.out Try.underlying29 rfl (by rw [HSLl.out];exact info_hash) ?_)
  | ((with_reducible refine gate_store (t:=29) (p:=28) rfl ?_);refine wpList_store_mid rfl 29 _ _ rfl g3 7 SL.toArray rfl rfl (by rw [List.size_toArray,HSLl.out];exact HLY4.out.part_there 7 32 (by rw [HYl.out];decide)) (by rw [List.size_toArray,HSLl.out];exact info_hash) (all_oneCell_toArray HSLo.out) ?_))
 have n0_:=HLY4.out.splice 7 SL (by rw [HSLl.out,HYl.out];decide);have TZ5:=am (World.there_setCells TZ4.out g3 7 SL);have HB5:=am (below_setCells g3 s2 SL 7 w4 HB4.out);generalize World.setCells _ _ _ _ = w5 at n0_ TZ5 HB5 ⊢;rw [HSL.out,HY.out,cells_sum (ext0 3 x.who) x.sum none 0 zs_length Hx.out] at n0_;obtain ⟨L,hL⟩ : ∃ L,L = ({ ext0 3 x.who with sum:=x.sum } : Ext).cells none 0:=⟨_,rfl⟩;have HLl:=am (by rw [hL];exact Ext.cells_length _ _ _ Hx.out : L.length = 49);have HLo:=am (by rw [hL];exact Ext.cells_one _ _ _ : ∀ v ∈ L,v.oneCell' = true);have BY5 : Aside0 (w5.rangeAt g3 0 L):=⟨by rw [hL];exact n0_.range⟩;have HL:=am hL;clear hL
 go_wp2_with (first
  | ((with_reducible refine gate_dst (N:=75) rfl ?_);refine wpList_load_mid rfl 33 _ rfl g3 0 rfl L _ BY5.out Try.underlying33 rfl (by rw [HLl.out];exact info_ext') ?_)
  | ((with_reducible refine gate_store (t:=33) (p:=2) rfl ?_);refine wpList_store_mid rfl 33 _ _ rfl g2 0 L.toArray rfl rfl (by rw [List.size_toArray,HLl.out,← HZl.out];exact TZ5.out) (by rw [List.size_toArray,HLl.out];exact info_ext') (all_oneCell_toArray HLo.out) ?_))
 have BR:=World.rangeAt_setCells_same w5 g2 0 L (by rw [HLl.out,← HZl.out];exact TZ5.out);have hres:=run_loadVar_mid (P:=Try.prog) (w5.setCells g2 0 L) g2 0 33 L _ BR Try.underlying33 rfl (by rw [HLl.out];exact info_ext');refine bodyPost_ret (v:= .agg L.toArray) (results_cell rfl _ rfl hres) rfl ?_;exact ⟨by rw [HL.out];first | done | rfl,below_setCells g2 s1 L 0 w5 HB5.out⟩
set_option maxRecDepth 100000 in
set_option maxHeartbeats 16000000 in
theorem named_4 (x : Ext) (A : Option Addr) (c : Nat) (hk : x.kind = 4) (hx : x.sum.length = 32) (w : World) :
 Calls Try.prog 33 #[.agg (x.cells A c).toArray] w fun e w'=>e = .returned (.agg ({ ext0 4 x.who with track:=x.track,sum:=x.sum,amt:=x.amt }.cells none 0).toArray) ∧ Below w.heap.size w w':=by
 obtain ⟨X,hX⟩ : ∃ X,X = (x.cells A c).toArray:=⟨_,rfl⟩;obtain ⟨Z,hZ⟩ : ∃ Z,Z = (ext0 0 0).cells none 0:=⟨_,rfl⟩;obtain ⟨Y,hY⟩ : ∃ Y,Y = (ext0 4 x.who).cells none 0:=⟨_,rfl⟩
 have hZl : Z.length = 49:=by rw [hZ];rfl
 have hYl : Y.length = 49:=by rw [hY];rfl
 have hYo : ∀ v ∈ Y,v.oneCell' = true:=by rw [hY];exact Ext.cells_one _ _ _
 have hal : ∀ w,(zeroValue 33).run Try.prog w = .ok (.agg Z.toArray) w:=fun w=>by rw [hZ];exact zero_ext w
 have hbr : ∀ w,(Instr.build 33 #[(0,.int .i64 4),(1,.int .i64 x.who)]).run Try.prog w = .ok (.agg Y.toArray) w:=fun w=>run_build w _ _ _ (by rw [hY];exact built_ext 4 x.who);rw [← hX];have HX:=am hX;have HY:=am hY;have Hx:=am hx;have HZl:=am hZl;have HYl:=am hYl;have HYo:=am hYo;have HK:=am hk;clear hX hY hx hZ hZl hYl hYo hk;go_enter Try.func33,Try.ntmps33
 go_upto_region 1 with (first
  | ((with_reducible refine gate_dst (N:=1) rfl ?_);refine box_event ?hg (N:=1) ?hd (cs:=X) (t:=33) ?hr ?_;(case hd=>rfl);(case hg=>rfl);(case hr=>first | (go_simp;done) | (go_simp;rfl));intro g1 hg1 w1 hbox1 hb1;have BX1:=am (rangeAt_box (HX.out ▸ hbox1));have HXlt:=am (blk_lt hbox1);have HB1:=am hb1;clear hg1 hbox1 hb1)
  | ((with_reducible refine gate_dst (N:=2) rfl ?_);refine box_event ?hg (N:=2) ?hd (cs:=Z.toArray) (t:=33) ?hr ?_;(case hd=>rfl);(case hg=>rfl);(case hr=>first | (simp [execOp,Instr.alloc,hal,newVar,newRow,go_sem];done) | (simp [execOp,Instr.alloc,hal,newVar,newRow,go_sem];rfl));intro g2 hg2 w2 hbox2 hb2;have G2:=am hg2;have BZ2:=am (there_box hbox2);have HZlt:=am (blk_lt hbox2);have HB2:=am hb2;clear hg2 hbox2 hb2))
 obtain ⟨p0,p1,p2,p3,p4,p5,p6⟩:=x.at_head A c (rangeAt_below BX1.out HB2.out HXlt.out);rw [HK.out] at p0
 go_upto_region 2 with (first
  | ((with_reducible refine gate_dst (N:=8) rfl ?_);refine Kd.event_run (v:= .agg Y.toArray) (w1:=w2) rfl (by first | (simp [execOp,hbr,go_sem];done) | (simp [execOp,hbr,go_sem];rw [HY.out];rfl)) ?_)
  | ((with_reducible refine gate_dst (N:=3) rfl ?_);refine box_event ?hg (N:=3) ?hd (cs:=Z.toArray) (t:=33) ?hr ?_;(case hd=>rfl);(case hg=>rfl);(case hr=>first | (simp [execOp,Instr.alloc,hal,newVar,newRow,go_sem];done) | (simp [execOp,Instr.alloc,hal,newVar,newRow,go_sem];rfl));intro g3 hg3 w3 hbox3 hb3;have G3:=am hg3;have BZ3:=am (there_box hbox3);have HYlt:=am (blk_lt hbox3);have HB3:=am hb3;clear hg3 hbox3 hb3)
  | ((with_reducible refine gate_store (t:=33) (p:=3) rfl ?_);refine wpList_store_mid rfl 33 _ _ rfl g3 0 Y.toArray rfl rfl (by rw [List.size_toArray,HYl.out,← HZl.out];exact BZ3.out) (by rw [List.size_toArray,HYl.out];exact info_ext') (all_oneCell_toArray HYo.out) ?_))
 have ne13 : g1 ≠ g3:=by have:=G3.out;have:=HB2.out.size;have:=HXlt.out;omega
 have ne23 : g2 ≠ g3:=by have:=G3.out;have:=HZlt.out;omega
 have BX3:=rangeAt_below (rangeAt_below BX1.out HB2.out HXlt.out) HB3.out (by have:=HB2.out.size;have:=HXlt.out;omega);have BX4:=am (World.rangeAt_setCells_apart BX3 g3 0 Y (.inl ne13));have BY4:=am (World.rangeAt_setCells_same w3 g3 0 Y (by rw [HYl.out,← HZl.out];exact BZ3.out));have TY4:=am (World.there_setCells BZ3.out g3 0 Y);have TZ3 : w3.there g2 0 Z.length:=fun j hj=>⟨by rw [HB3.out.cell (p:=⟨g2,0 + j,none⟩) HZlt.out];exact (BZ2.out j hj).1,by rw [HB3.out.frozen (p:=⟨g2,0 + j,none⟩) HZlt.out];exact (BZ2.out j hj).2⟩;have TZ4:=am (World.there_setCells TZ3 g3 0 Y);have HB3a:=below_step (below_step HB1.out HB2.out) HB3.out;have HB4:=am (below_setCells g3 (by have:=G3.out;have:=(below_step HB1.out HB2.out).size;omega) Y 0 w3 HB3a)
 have s1 : w.heap.size ≤ g2:=by have:=G2.out;have:=HB1.out.size;omega
 have s2 : w.heap.size ≤ g3:=by have:=G3.out;have:=(below_step HB1.out HB2.out).size;omega
 clear BX3 TZ3 HB3a p0 p1 p2 p3 p4 p5 p6;generalize w3.setCells g3 0 Y = w4 at BX4 BY4 TY4 TZ4 HB4 ⊢;obtain ⟨p0,p1,p2,p3,p4,p5,p6⟩:=x.at_head A c BX4.out;rw [HK.out] at p0;have LY4 : Lies w4 g3 Y:=⟨BY4.out,by have:=TY4.out;rwa [HZl.out,← HYl.out] at this⟩;obtain ⟨SL,hSL⟩ : ∃ SL,SL = x.sum.map cell:=⟨_,rfl⟩
 have hSLl : SL.length = 32:=by rw [hSL,List.length_map];exact Hx.out
 have hSLo : ∀ v ∈ SL,v.oneCell' = true:=by rw [hSL];intro v hv;obtain ⟨b,_,rfl⟩:=List.mem_map.1 hv;rfl
 have hRS : w4.rangeAt g1 7 SL:=by rw [hSL];exact x.at_sum A c BX4.out
 have HSL:=am hSL;have HSLl:=am hSLl;have HSLo:=am hSLo;have HRS:=am hRS;have HLY4:=am LY4;clear hSL hSLl hSLo hRS LY4;obtain ⟨XL,hXL⟩ : ∃ XL,XL = x.cells A c:=⟨_,rfl⟩;have HXR : Aside0 (w4.rangeAt g1 0 XL):=⟨by rw [hXL];exact BX4.out⟩;have HCA:=am (fun (w' : World) (h : w'.rangeAt g1 0 XL)=>x.at_head A c (hXL ▸ h));have HCS : Aside0 (∀ (w' : World),w'.rangeAt g1 0 XL → w'.rangeAt g1 7 SL):=⟨fun w' h=>by rw [HSL.out];exact x.at_sum A c (hXL ▸ h)⟩;have HXL:=am hXL;clear hXL;have c5 : w4.cell? ⟨g3,5,none⟩ = some (.int .i64 0):=HLY4.out.cell (by rw [HY.out];rfl);have f5 : w4.frozen? ⟨g3,5,none⟩ = false:=HLY4.out.frozen 5 (by rw [HYl.out];decide)
 go_upto_region 10 with (fail)
 refine start_ (n:=12) (S:=fun w'=>w'.rangeAt g1 0 XL) (ds:=[]) (bl 12 0) (by kernel_rfl) rfl rfl ((World.rangeAt_drew _ _ _ _).2 HXR.out) (fun hHeld=>?_);refine with_tabW named_r10.tab named_r10.bits (fun HT_ HW_=>?_);refine p_ HT_ 0 (some 31) named_r10.l0 ?_;refine tk HT_ HW_ hHeld 1 (some 32) named_r10.l1 (hr:=by intro w' hs_;have c_:=HCA.out w' hs_;obtain ⟨_,_,_,_,_,c_,_⟩:=c_;go_simp;with_reducible rfl) (h:=?_);refine p_ HT_ 2 (some 33) named_r10.l2 ?_;refine tk HT_ HW_ hHeld 3 (some 34) named_r10.l3 (hr:=by intro w' hs_;refine load_runO (ty:=29) (y:= .tmp 33) (g:=g1) (off:=7) (L:=SL) ?_ ?_ (HCS.out w' hs_) Try.underlying29 rfl (by rw [HSLl.out];exact info_hash) <;> rfl) (h:=?_);refine p_ HT_ 4 (some 35) named_r10.l4 ?_;refine tk HT_ HW_ hHeld 5 (some 36) named_r10.l5 (hr:=by intro w' hs_;have c_:=HCA.out w' hs_;obtain ⟨_,_,_,c_,_,_,_⟩:=c_;go_simp;with_reducible rfl) (h:=?_);refine p_ HT_ 6 (some 37) named_r10.l6 ?_;refine o_ HT_ 7 none named_r10.l7 fun K hK=>?_;refine skip_ (w1:=w4.drew.setCell ⟨g3,5,none⟩ (.int .i64 x.track)) (by rfl) rfl ?_ ?_
 ·go_simp
 have n0_:=(HLY4.out.drew).set 5 (by rw [HYl.out];decide) (.int .i64 x.track);have TZa:=am (there_setCell ((World.there_drew _ _ _ _).2 TZ4.out) g3 5 (.int .i64 x.track));have HBa:=am ((below_drew HB4.out).setCell (p:=⟨g3,5,none⟩) s2 (.int .i64 x.track));have hHeld:=far_range hHeld (fun e=>ne13 e) 5 (.int .i64 x.track);refine hK.out _ _ hHeld (fun hHeld=>?_);clear hK K;generalize World.setCell _ _ _ = wa at n0_ TZa HBa hHeld ⊢;rw [HY.out,show ((ext0 4 x.who).cells none 0).set 5 (.int .i64 x.track) = ({ ext0 4 x.who with track:=x.track } : Ext).cells none 0 from rfl] at n0_;have HLa:=am n0_;clear n0_;refine p_ HT_ 8 (some 38) named_r10.l8 ?_;refine o_ HT_ 9 none named_r10.l9 fun K hK=>?_;refine skip_ (w1:=wa.setCells g3 7 SL) (by rfl) rfl ?_ ?_
 ·exact store_runO (x:= .tmp 38) (y:= .tmp 34) rfl rfl rfl (by rw [HSLl.out];exact HLa.out.part_there 7 32 (by rw [Ext.cells_length _ _ _ zs_length];decide)) (by rw [HSLl.out];exact info_hash) HSLo.out
 have n0_:=HLa.out.splice 7 SL (by rw [HSLl.out,Ext.cells_length _ _ _ zs_length];decide);have TZb:=am (World.there_setCells TZa.out g3 7 SL);have HBb:=am (below_setCells g3 s2 SL 7 wa HBa.out);have hHeld:=World.rangeAt_setCells_apart hHeld g3 7 SL (.inl ne13);refine hK.out _ _ hHeld (fun hHeld=>?_);clear hK K;generalize World.setCells _ _ _ _ = wb at n0_ TZb HBb hHeld ⊢;rw [HSL.out,cells_sum _ x.sum none 0 zs_length Hx.out] at n0_;obtain ⟨Eb,hEb⟩ : ∃ E : Ext,E = ({ ({ ext0 4 x.who with track:=x.track } : Ext) with sum:=x.sum } : Ext):=⟨_,rfl⟩
 have n1_ : Lies wb g3 (Eb.cells none 0):=by rw [hEb];exact n0_
 have hEl : 3 < (Eb.cells none 0).length:=by rw [Ext.cells_length _ _ _ (by rw [hEb];exact Hx.out)];decide
 have cb3:=n1_.cell (i:=3) (v:= .int .i64 0) (by rw [hEb];rfl);have fb3:=n1_.frozen 3 hEl;have HLb:=am n1_;have HEb:=am hEb;have HEl:=am hEl;clear n0_ n1_ hEb hEl;refine p_ HT_ 10 (some 39) named_r10.l10 ?_;refine o_ HT_ 11 none named_r10.l11 fun K hK=>?_;refine skip_ (w1:=wb.setCell ⟨g3,3,none⟩ (.int .i64 x.amt)) (by rfl) rfl ?_ ?_
 ·go_simp
 have n0_:=HLb.out.set 3 HEl.out (.int .i64 x.amt);have TZ5:=am (there_setCell TZb.out g3 3 (.int .i64 x.amt));have HB5:=am (HBb.out.setCell (p:=⟨g3,3,none⟩) s2 (.int .i64 x.amt));have hHeld:=far_range hHeld (fun e=>ne13 e) 3 (.int .i64 x.amt);refine hK.out _ _ hHeld (fun hHeld=>?_);clear hK K;generalize World.setCell _ _ _ = w5 at n0_ TZ5 HB5 hHeld ⊢;refine done_ (done_of HT_.out (by kernel_rfl)) ?_;clear HT_ HW_;rw [HEb.out,show (({ ({ ext0 4 x.who with track:=x.track } : Ext) with sum:=x.sum } : Ext).cells none 0).set 3 (.int .i64 x.amt) = ({ ext0 4 x.who with track:=x.track,sum:=x.sum,amt:=x.amt } : Ext).cells none 0 from rfl] at n0_;obtain ⟨L,hL⟩ : ∃ L,L = ({ ext0 4 x.who with track:=x.track,sum:=x.sum,amt:=x.amt } : Ext).cells none 0:=⟨_,rfl⟩;have HLl:=am (by rw [hL];exact Ext.cells_length _ _ _ Hx.out : L.length = 49);have HLo:=am (by rw [hL];exact Ext.cells_one _ _ _ : ∀ v ∈ L,v.oneCell' = true);have BY5 : Aside0 (w5.rangeAt g3 0 L):=⟨by rw [hL];exact n0_.range⟩;have HL:=am hL;clear hL
 go_wp2_with (first
  | ((with_reducible refine gate_dst (N:=75) rfl ?_);refine wpList_load_mid rfl 33 _ rfl g3 0 rfl L _ BY5.out Try.underlying33 rfl (by rw [HLl.out];exact info_ext') ?_)
  | ((with_reducible refine gate_store (t:=33) (p:=2) rfl ?_);refine wpList_store_mid rfl 33 _ _ rfl g2 0 L.toArray rfl rfl (by rw [List.size_toArray,HLl.out,← HZl.out];exact TZ5.out) (by rw [List.size_toArray,HLl.out];exact info_ext') (all_oneCell_toArray HLo.out) ?_))
 have BR:=World.rangeAt_setCells_same w5 g2 0 L (by rw [HLl.out,← HZl.out];exact TZ5.out);have hres:=run_loadVar_mid (P:=Try.prog) (w5.setCells g2 0 L) g2 0 33 L _ BR Try.underlying33 rfl (by rw [HLl.out];exact info_ext');refine bodyPost_ret (v:= .agg L.toArray) (results_cell rfl _ rfl hres) rfl ?_;exact ⟨by rw [HL.out];first | done | rfl,below_setCells g2 s1 L 0 w5 HB5.out⟩
set_option maxRecDepth 100000 in
set_option maxHeartbeats 16000000 in
theorem named_no (x : Ext) (A : Option Addr) (c : Nat) (hk : ¬ (1 ≤ x.kind ∧ x.kind ≤ 11)) (hx : x.sum.length = 32) (w : World) :
 Calls Try.prog 33 #[.agg (x.cells A c).toArray] w fun e w'=>e = .returned (.agg ((ext0 x.kind x.who).cells none 0).toArray) ∧ Below w.heap.size w w':=by
 obtain ⟨X,hX⟩ : ∃ X,X = (x.cells A c).toArray:=⟨_,rfl⟩;obtain ⟨Z,hZ⟩ : ∃ Z,Z = (ext0 0 0).cells none 0:=⟨_,rfl⟩;obtain ⟨Y,hY⟩ : ∃ Y,Y = (ext0 x.kind x.who).cells none 0:=⟨_,rfl⟩
 have hZl : Z.length = 49:=by rw [hZ];rfl
 have hYl : Y.length = 49:=by rw [hY];rfl
 have hYo : ∀ v ∈ Y,v.oneCell' = true:=by rw [hY];exact Ext.cells_one _ _ _
 have hal : ∀ w,(zeroValue 33).run Try.prog w = .ok (.agg Z.toArray) w:=fun w=>by rw [hZ];exact zero_ext w
 have hbr : ∀ w,(Instr.build 33 #[(0,.int .i64 x.kind),(1,.int .i64 x.who)]).run Try.prog w = .ok (.agg Y.toArray) w:=fun w=>run_build w _ _ _ (by rw [hY];exact built_ext x.kind x.who);rw [← hX];have HX:=am hX;have HY:=am hY;have Hx:=am hx;have HZl:=am hZl;have HYl:=am hYl;have HYo:=am hYo;have HK:=am hk;clear hX hY hx hZ hZl hYl hYo hk;go_enter Try.func33,Try.ntmps33
 go_upto_region 1 with (first
  | ((with_reducible refine gate_dst (N:=1) rfl ?_);refine box_event ?hg (N:=1) ?hd (cs:=X) (t:=33) ?hr ?_;(case hd=>rfl);(case hg=>rfl);(case hr=>first | (go_simp;done) | (go_simp;rfl));intro g1 hg1 w1 hbox1 hb1;have BX1:=am (rangeAt_box (HX.out ▸ hbox1));have HXlt:=am (blk_lt hbox1);have HB1:=am hb1;clear hg1 hbox1 hb1)
  | ((with_reducible refine gate_dst (N:=2) rfl ?_);refine box_event ?hg (N:=2) ?hd (cs:=Z.toArray) (t:=33) ?hr ?_;(case hd=>rfl);(case hg=>rfl);(case hr=>first | (simp [execOp,Instr.alloc,hal,newVar,newRow,go_sem];done) | (simp [execOp,Instr.alloc,hal,newVar,newRow,go_sem];rfl));intro g2 hg2 w2 hbox2 hb2;have G2:=am hg2;have BZ2:=am (there_box hbox2);have HZlt:=am (blk_lt hbox2);have HB2:=am hb2;clear hg2 hbox2 hb2))
 obtain ⟨p0,p1,p2,p3,p4,p5,p6⟩:=x.at_head A c (rangeAt_below BX1.out HB2.out HXlt.out);have dk1 : decide (x.kind = 1) = false:=decide_eq_false (by have:=HK.out;omega);have dkb1 : (x.kind == 1) = false:=beq_eq_false_iff_ne.2 (by have:=HK.out;omega);have dk2 : decide (x.kind = 2) = false:=decide_eq_false (by have:=HK.out;omega);have dkb2 : (x.kind == 2) = false:=beq_eq_false_iff_ne.2 (by have:=HK.out;omega);have dk3 : decide (x.kind = 3) = false:=decide_eq_false (by have:=HK.out;omega);have dkb3 : (x.kind == 3) = false:=beq_eq_false_iff_ne.2 (by have:=HK.out;omega);have dk4 : decide (x.kind = 4) = false:=decide_eq_false (by have:=HK.out;omega);have dkb4 : (x.kind == 4) = false:=beq_eq_false_iff_ne.2 (by have:=HK.out;omega);have dk5 : decide (x.kind = 5) = false:=decide_eq_false (by have:=HK.out;omega);have dkb5 : (x.kind == 5) = false:=beq_eq_false_iff_ne.2 (by have:=HK.out;omega);have dk6 : decide (x.kind = 6) = false:=decide_eq_false (by have:=HK.out;omega);have dkb6 : (x.kind == 6) = false:=beq_eq_false_iff_ne.2 (by have:=HK.out;omega);have dk7 : decide (x.kind = 7) = false:=decide_eq_false (by have:=HK.out;omega);have dkb7 : (x.kind == 7) = false:=beq_eq_false_iff_ne.2 (by have:=HK.out;omega);have dk8 : decide (x.kind = 8) = false:=decide_eq_false (by have:=HK.out;omega);have dkb8 : (x.kind == 8) = false:=beq_eq_false_iff_ne.2 (by have:=HK.out;omega);have dk9 : decide (x.kind = 9) = false:=decide_eq_false (by have:=HK.out;omega);have dkb9 : (x.kind == 9) = false:=beq_eq_false_iff_ne.2 (by have:=HK.out;omega);have dk10 : decide (x.kind = 10) = false:=decide_eq_false (by have:=HK.out;omega);have dkb10 : (x.kind == 10) = false:=beq_eq_false_iff_ne.2 (by have:=HK.out;omega);have dk11 : decide (x.kind = 11) = false:=decide_eq_false (by have:=HK.out;omega);have dkb11 : (x.kind == 11) = false:=beq_eq_false_iff_ne.2 (by have:=HK.out;omega)
 go_upto_region 2 with (first
  | ((with_reducible refine gate_dst (N:=8) rfl ?_);refine Kd.event_run (v:= .agg Y.toArray) (w1:=w2) rfl (by first | (simp [execOp,hbr,go_sem];done) | (simp [execOp,hbr,go_sem];rw [HY.out];rfl)) ?_)
  | ((with_reducible refine gate_dst (N:=3) rfl ?_);refine box_event ?hg (N:=3) ?hd (cs:=Z.toArray) (t:=33) ?hr ?_;(case hd=>rfl);(case hg=>rfl);(case hr=>first | (simp [execOp,Instr.alloc,hal,newVar,newRow,go_sem];done) | (simp [execOp,Instr.alloc,hal,newVar,newRow,go_sem];rfl));intro g3 hg3 w3 hbox3 hb3;have G3:=am hg3;have BZ3:=am (there_box hbox3);have HYlt:=am (blk_lt hbox3);have HB3:=am hb3;clear hg3 hbox3 hb3)
  | ((with_reducible refine gate_store (t:=33) (p:=3) rfl ?_);refine wpList_store_mid rfl 33 _ _ rfl g3 0 Y.toArray rfl rfl (by rw [List.size_toArray,HYl.out,← HZl.out];exact BZ3.out) (by rw [List.size_toArray,HYl.out];exact info_ext') (all_oneCell_toArray HYo.out) ?_))
 have ne13 : g1 ≠ g3:=by have:=G3.out;have:=HB2.out.size;have:=HXlt.out;omega
 have ne23 : g2 ≠ g3:=by have:=G3.out;have:=HZlt.out;omega
 have BX3:=rangeAt_below (rangeAt_below BX1.out HB2.out HXlt.out) HB3.out (by have:=HB2.out.size;have:=HXlt.out;omega);have BX4:=am (World.rangeAt_setCells_apart BX3 g3 0 Y (.inl ne13));have BY4:=am (World.rangeAt_setCells_same w3 g3 0 Y (by rw [HYl.out,← HZl.out];exact BZ3.out));have TY4:=am (World.there_setCells BZ3.out g3 0 Y);have TZ3 : w3.there g2 0 Z.length:=fun j hj=>⟨by rw [HB3.out.cell (p:=⟨g2,0 + j,none⟩) HZlt.out];exact (BZ2.out j hj).1,by rw [HB3.out.frozen (p:=⟨g2,0 + j,none⟩) HZlt.out];exact (BZ2.out j hj).2⟩;have TZ4:=am (World.there_setCells TZ3 g3 0 Y);have HB3a:=below_step (below_step HB1.out HB2.out) HB3.out;have HB4:=am (below_setCells g3 (by have:=G3.out;have:=(below_step HB1.out HB2.out).size;omega) Y 0 w3 HB3a)
 have s1 : w.heap.size ≤ g2:=by have:=G2.out;have:=HB1.out.size;omega
 have s2 : w.heap.size ≤ g3:=by have:=G3.out;have:=(below_step HB1.out HB2.out).size;omega
 clear BX3 TZ3 HB3a p0 p1 p2 p3 p4 p5 p6;generalize w3.setCells g3 0 Y = w4 at BX4 BY4 TY4 TZ4 HB4 ⊢;obtain ⟨p0,p1,p2,p3,p4,p5,p6⟩:=x.at_head A c BX4.out;have dk1 : decide (x.kind = 1) = false:=decide_eq_false (by have:=HK.out;omega);have dkb1 : (x.kind == 1) = false:=beq_eq_false_iff_ne.2 (by have:=HK.out;omega);have dk2 : decide (x.kind = 2) = false:=decide_eq_false (by have:=HK.out;omega);have dkb2 : (x.kind == 2) = false:=beq_eq_false_iff_ne.2 (by have:=HK.out;omega);have dk3 : decide (x.kind = 3) = false:=decide_eq_false (by have:=HK.out;omega);have dkb3 : (x.kind == 3) = false:=beq_eq_false_iff_ne.2 (by have:=HK.out;omega);have dk4 : decide (x.kind = 4) = false:=decide_eq_false (by have:=HK.out;omega);have dkb4 : (x.kind == 4) = false:=beq_eq_false_iff_ne.2 (by have:=HK.out;omega);have dk5 : decide (x.kind = 5) = false:=decide_eq_false (by have:=HK.out;omega);have dkb5 : (x.kind == 5) = false:=beq_eq_false_iff_ne.2 (by have:=HK.out;omega);have dk6 : decide (x.kind = 6) = false:=decide_eq_false (by have:=HK.out;omega);have dkb6 : (x.kind == 6) = false:=beq_eq_false_iff_ne.2 (by have:=HK.out;omega);have dk7 : decide (x.kind = 7) = false:=decide_eq_false (by have:=HK.out;omega);have dkb7 : (x.kind == 7) = false:=beq_eq_false_iff_ne.2 (by have:=HK.out;omega);have dk8 : decide (x.kind = 8) = false:=decide_eq_false (by have:=HK.out;omega);have dkb8 : (x.kind == 8) = false:=beq_eq_false_iff_ne.2 (by have:=HK.out;omega);have dk9 : decide (x.kind = 9) = false:=decide_eq_false (by have:=HK.out;omega);have dkb9 : (x.kind == 9) = false:=beq_eq_false_iff_ne.2 (by have:=HK.out;omega);have dk10 : decide (x.kind = 10) = false:=decide_eq_false (by have:=HK.out;omega);have dkb10 : (x.kind == 10) = false:=beq_eq_false_iff_ne.2 (by have:=HK.out;omega);have dk11 : decide (x.kind = 11) = false:=decide_eq_false (by have:=HK.out;omega);have dkb11 : (x.kind == 11) = false:=beq_eq_false_iff_ne.2 (by have:=HK.out;omega)
 go_upto_region 22 with (fail)
 obtain ⟨w5,hw5⟩ : ∃ w5,w5 = w4:=⟨_,rfl⟩;rw [← hw5];have TZ5 : Aside0 (w5.there g2 0 Z.length):=⟨by rw [hw5];exact TZ4.out⟩;have HB5 : Aside0 (Below w.heap.size w w5):=⟨by rw [hw5];exact HB4.out⟩
 have n0_ : w5.rangeAt g3 0 ((ext0 x.kind x.who).cells none 0):=by rw [hw5,← HY.out];exact BY4.out
 clear hw5;obtain ⟨L,hL⟩ : ∃ L,L = ({ ext0 x.kind x.who with kind:=x.kind } : Ext).cells none 0:=⟨_,rfl⟩;have HLl:=am (by rw [hL];exact Ext.cells_length _ _ _ zs_length : L.length = 49);have HLo:=am (by rw [hL];exact Ext.cells_one _ _ _ : ∀ v ∈ L,v.oneCell' = true);have BY5 : Aside0 (w5.rangeAt g3 0 L):=⟨by rw [hL];exact n0_⟩;have HL:=am hL;clear hL
 go_wp2_with (first
  | ((with_reducible refine gate_dst (N:=75) rfl ?_);refine wpList_load_mid rfl 33 _ rfl g3 0 rfl L _ BY5.out Try.underlying33 rfl (by rw [HLl.out];exact info_ext') ?_)
  | ((with_reducible refine gate_store (t:=33) (p:=2) rfl ?_);refine wpList_store_mid rfl 33 _ _ rfl g2 0 L.toArray rfl rfl (by rw [List.size_toArray,HLl.out,← HZl.out];exact TZ5.out) (by rw [List.size_toArray,HLl.out];exact info_ext') (all_oneCell_toArray HLo.out) ?_))
 have BR:=World.rangeAt_setCells_same w5 g2 0 L (by rw [HLl.out,← HZl.out];exact TZ5.out);have hres:=run_loadVar_mid (P:=Try.prog) (w5.setCells g2 0 L) g2 0 33 L _ BR Try.underlying33 rfl (by rw [HLl.out];exact info_ext');refine bodyPost_ret (v:= .agg L.toArray) (results_cell rfl _ rfl hres) rfl ?_;exact ⟨by rw [HL.out];first | done | rfl,below_setCells g2 s1 L 0 w5 HB5.out⟩
end Go.Proofs.Ytilckocpgififaa.G
