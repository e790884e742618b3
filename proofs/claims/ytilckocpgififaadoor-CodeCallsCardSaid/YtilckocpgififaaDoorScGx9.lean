import Derived.Test.YtilckocpgififaaDoorScHStep
import Derived.Test.YtilckocpgififaaDoorScGx7
-- Laid by this session's own program gprint.py over the kit's print (given functions are proved by hand).
namespace Go.Proofs.YtilckocpgififaaDoor.G
open Go.RowKit Go.Proofs.YtilckocpgififaaDoorW.PrintWords Go.Proofs.YtilckocpgififaaDoorW.PrintLast Go.Proofs.YtilckocpgififaaDoorW.PrintMore
attribute [local go_sem] max2_int min2_int max_two min_two max_three min_three max_four min_four   -- for this text's walks alone
set_option linter.unusedVariables false
set_option linter.unusedSimpArgs false
/-! ### althingref1_Take: function 61 -/
mutual
def althingref1_Take.j0 : Nat → List Int → Int → Int → Option (Int × Int × Bool)
 | 0,_,_,_=>none
 | k + 1,x0,x5,x6=>if x6 > 8 then (althingref1_Take.j1 k x0 x5 x6 true) else (althingref1_Take.j1 k x0 x5 x6 (decide ((wrap64 (x5 + x6)) > (x0.length : Int))))
def althingref1_Take.j1 : Nat → List Int → Int → Int → Bool → Option (Int × Int × Bool)
 | 0,_,_,_,_=>none
 | k + 1,x0,x5,x6,x36=>if x36 = true then (some (0,0,false)) else (althingref1_Take.l0 k x0 x5 x6 0 (wrap64 (x6 - 1)))
def althingref1_Take.l0 : Nat → List Int → Int → Int → Int → Int → Option (Int × Int × Bool)
 | 0,_,_,_,_,_=>none
 | k + 1,x0,x5,x6,x7,x8=>if x8 ≥ 0 then (if 0 ≤ (wrap64 (x5 + x8)) then (if (wrap64 (x5 + x8)) < (x0.length : Int) then (althingref1_Take.l0 k x0 x5 x6 (Go.bits .or .i64 (wrap64 (x7 * 256)) (wrap64 (rd x0 (wrap64 (x5 + x8))))) (wrap64 (x8 - 1))) else (none)) else (none)) else (if x5 = 0 then (if (x7 / 4) < 0 then (some (0,0,false)) else (if (x7 / 4) > 4611686018427387904 then (some (0,0,false)) else ((althingref1_Num.f k (x7 / 4)).bind fun t296=>(if 0 ≤ (wrap64 (x5 + x6)) then (if (wrap64 (x5 + x6)) ≤ (x0.length : Int) then (if (strOfNums t296).toList = (strOfNums (x0.take ((wrap64 (x5 + x6)) : Int).toNat)).toList then (some (x7 / 4,wrap64 (x5 + x6),true)) else (some (0,0,false))) else (none)) else (none))))) else (if x7 < 0 then (some (0,0,false)) else (if x7 > 4611686018427387904 then (some (0,0,false)) else ((althingref1_Num.f k x7).bind fun t300=>(if 0 ≤ (wrap64 (x5 + x6)) then (if (wrap64 (x5 + x6)) ≤ (x0.length : Int) then (if (strOfNums t300).toList = (strOfNums (x0.take ((wrap64 (x5 + x6)) : Int).toNat)).toList then (some (x7,wrap64 (x5 + x6),true)) else (some (0,0,false))) else (none)) else (none))))))
end
def althingref1_Take.f (k : Nat) (l0 : List Int) : Option (Int × Int × Bool):=if (l0.length : Int) = 0 then (some (0,0,false)) else ((some (([1,2,4,0] : List Int) : List Int)).bind fun y289=>(if 0 < (l0.length : Int) then (if 0 ≤ (Go.bits .and .u8 (rd l0 0) 3) then (if (Go.bits .and .u8 (rd l0 0) 3) < (y289.length : Int) then (if (rd y289 (Go.bits .and .u8 (rd l0 0) 3)) = 0 then (althingref1_Take.j0 k l0 1 (wrap64 ((wrap64 ((rd l0 0) / 4)) + 4))) else (althingref1_Take.j0 k l0 0 (rd y289 (Go.bits .and .u8 (rd l0 0) 3)))) else (none)) else (none)) else (none)))
def althingref1_Take.T3 : Bool × List (List Nat × List Nat):=(true,[([],[]),([],[]),([1],[1]),([2],[2]),([3],[3]),([0,4],[0,4]),([5],[5]),([],[]),([6,7,0,1,2,3,4,5,6,7],[6])])
def althingref1_Take.B3 : List Nat:=[0,0,2,6,14,31,63,0,255]
theorem althingref1_Take.tab3 : rtab .any (opsOf Tryd.f61 3) = althingref1_Take.T3:=by kernel_rfl
theorem althingref1_Take.bits3 : waitsOk althingref1_Take.T3.2 althingref1_Take.B3 = true:=by kernel_rfl
def althingref1_Take.T5 : Bool × List (List Nat × List Nat):=(true,[([],[]),([0],[0]),([1],[1]),([2],[2]),([3],[3]),([4],[4]),([],[]),([5,6,0,1,2,3,4,5,6],[5])])
def althingref1_Take.B5 : List Nat:=[0,1,3,7,15,31,0,127]
theorem althingref1_Take.tab5 : rtab .any (opsOf Tryd.f61 5) = althingref1_Take.T5:=by kernel_rfl
theorem althingref1_Take.bits5 : waitsOk althingref1_Take.T5.2 althingref1_Take.B5 = true:=by kernel_rfl
def althingref1_Take.T15 : Bool × List (List Nat × List Nat):=(true,[([],[]),([0],[0]),([1],[1]),([2],[2]),([3,2],[2,3]),([2,4],[2,4]),([5,2],[5]),([6],[6]),([7,6,6],[6,7]),([8,6],[6,8]),([6],[6]),([6],[6]),([6],[6]),([11,12,6],[6,11,12]),([10,13,6],[6,10,13]),([14,6],[6,14]),([9,15,6],[6,9,15]),([6,16],[6,16])])
def althingref1_Take.B15 : List Nat:=[0,1,3,7,15,31,63,127,255,511,127,127,127,6271,15487,31871,65535,131071]
theorem althingref1_Take.tab15 : rtab .any (opsOf Tryd.f61 15) = althingref1_Take.T15:=by kernel_rfl
theorem althingref1_Take.bits15 : waitsOk althingref1_Take.T15.2 althingref1_Take.B15 = true:=by kernel_rfl
set_option maxHeartbeats 8000000 in
set_option maxRecDepth 100000 in
theorem althingref1_Take.calls (k : Nat) (A0 : Option Addr) (c0 : Nat) (l0 : List Int) (r1 : Int) (r2 : Int) (r3 : Bool) (w : World) (hr0 : Kd.C (Kd.int .u8) w A0 l0.length l0) (hc0 : l0.length ≤ c0) (h : althingref1_Take.f k l0 = some (r1,r2,r3)) :
 Calls Tryd.prog 61 #[.slice A0 l0.length c0] w fun e w'=>e = .returned (.tuple #[.int .i64 r1,.int .i64 r2,.bool r3]) ∧ Below w.heap.size w w':=by
 have HR0:=am hr0;have HC0:=am hc0;clear hr0 hc0;have HB:=am (Below.refl w.heap.size w);have H : (if (l0.length : Int) = 0 then (some (0,0,false)) else ((some (([1,2,4,0] : List Int) : List Int)).bind fun y289=>(if 0 < (l0.length : Int) then (if 0 ≤ (Go.bits .and .u8 (rd l0 0) 3) then (if (Go.bits .and .u8 (rd l0 0) 3) < (y289.length : Int) then (if (rd y289 (Go.bits .and .u8 (rd l0 0) 3)) = 0 then (althingref1_Take.j0 k l0 1 (wrap64 ((wrap64 ((rd l0 0) / 4)) + 4))) else (althingref1_Take.j0 k l0 0 (rd y289 (Go.bits .and .u8 (rd l0 0) 3)))) else (none)) else (none)) else (none)))) = some (r1,r2,r3):=h;clear h
 by_cases c2 : (l0.length : Int) = 0
 ·rw [if_pos c2] at H;have c2b0 : ((l0.length : Int) == 0) = true:=beq_iff_eq.mpr c2;have c2b1 : ((l0.length : Int) != 0) = false:=bne_eq_false_iff_eq.mpr c2;clear c2;simp only [Option.some.injEq,Prod.mk.injEq] at H;obtain ⟨rfl,rfl,rfl⟩:=H;go_enter Tryd.func61,Tryd.ntmps61
  go_wp2
  go_ret3
  exact ⟨by first | rfl | (simp [errW_none,errW_some] <;> rfl) | (simp [*,errW_none,errW_some] <;> rfl),by exact bq HB.out⟩
 rw [if_neg c2] at H;have c2b0 : ((l0.length : Int) == 0) = false:=beq_eq_false_iff_ne.mpr c2;have c2b1 : ((l0.length : Int) != 0) = true:=bne_iff_ne.mpr c2;have c2b2 : ¬ (l0 = []):=fun h_=>c2 (by rw [h_];rfl);obtain ⟨y289,hy289⟩ : ∃ y_ : List Int,y_ = (([1,2,4,0] : List Int)):=⟨_,rfl⟩
 replace H : (if 0 < (l0.length : Int) then (if 0 ≤ (Go.bits .and .u8 (rd l0 0) 3) then (if (Go.bits .and .u8 (rd l0 0) 3) < (y289.length : Int) then (if (rd y289 (Go.bits .and .u8 (rd l0 0) 3)) = 0 then (althingref1_Take.j0 k l0 1 (wrap64 ((wrap64 ((rd l0 0) / 4)) + 4))) else (althingref1_Take.j0 k l0 0 (rd y289 (Go.bits .and .u8 (rd l0 0) 3)))) else (none)) else (none)) else (none)) = some (r1,r2,r3):=by first | (rw [hy289];with_reducible exact H) | (have H2_:=(Option.bind_some _ _).symm.trans H;rw [hy289];with_reducible exact H2_) | (have H2_:=(Option.bind_some _ _).symm.trans H;with_reducible exact H2_) | with_reducible exact H | (rw [hy289];exact H) | exact H
 have Ny289:=am hy289;clear hy289
 by_cases c3 : 0 < (l0.length : Int)
 rotate_left
 ·rw [if_neg c3] at H;exact absurd H (by simp)
 rw [if_pos c3] at H;have c3b0 : decide (0 < (l0.length : Int)) = true:=decide_eq_true c3;have c3b1 : decide (0 < l0.length) = true:=decide_eq_true (by omega);clear c3
 by_cases c4 : 0 ≤ (Go.bits .and .u8 (rd l0 0) 3)
 rotate_left
 ·rw [if_neg c4] at H;exact absurd H (by simp)
 rw [if_pos c4] at H;have c4b0 : decide (0 ≤ (Go.bits .and .u8 (rd l0 0) 3)) = true:=decide_eq_true c4;clear c4
 by_cases c5 : (Go.bits .and .u8 (rd l0 0) 3) < (y289.length : Int)
 rotate_left
 ·rw [if_neg c5] at H;exact absurd H (by simp)
 rw [if_pos c5] at H;have c5b0 : decide ((Go.bits .and .u8 (rd l0 0) 3) < (y289.length : Int)) = true:=decide_eq_true c5;clear c5;have HC6:=am H;clear H;go_enter Tryd.func61,Tryd.ntmps61
 try go_wp2
 have pi293 : (0 ≤ ((Go.bits .and .u8 (rd l0 0) 3) : Int)) = True:=eq_true (of_decide_eq_true (by first | (with_reducible assumption) | assumption));have qi293 : ((Go.bits .and .u8 (rd l0 0) 3) < (y289.length : Int)) = True:=eq_true (of_decide_eq_true (by first | (with_reducible assumption) | assumption));have n0_:=am (below_drew1 HB.out);clear HB;have HB:=n0_;clear n0_;have p292 : 0 ≤ (0 : Int):=(by omega);have q292 : 0 < (l0.length : Int):=of_decide_eq_true (by first | (with_reducible assumption) | assumption);obtain ⟨ad292,e292,hx292_0⟩:=Kd.at_int HR0.out 0 p292 q292;have hw292_0:=hx292_0
 (try rw [show ((0 : Int)).toNat = 0 from rfl] at hw292_0)
 (try rw [show 0 * 1 = 0 from rfl] at hw292_0)
 (try rw [Addr.add_zero'] at hw292_0)
 cases e292;have qi292 : (0 < l0.length) = True:=eq_true (by omega)
 (try rw [show ((0 : Int)).toNat = 0 from rfl] at hx292_0)
 (try rw [Addr.add_zero'] at hx292_0)
 replace hx292_0:=(HB.out.cell (World.block_lt_of_cell? w _ hx292_0)).trans hx292_0;replace p292:=eq_true p292;replace q292:=eq_true q292;refine start_ (n:=9) (S:=fun w'=>w'.cell? ad292 = some (.int .u8 (rd l0 0))) (ds:=[]) (bl 9 0) (by kernel_rfl) rfl rfl (((HB.out.cell (World.block_lt_of_cell? w _ hw292_0)).trans hw292_0)) (fun hHeld=>?_);refine with_tabW althingref1_Take.tab3 althingref1_Take.bits3 (fun HT_ HW_=>?_);generalize w.drew = w7 at HB hx292_0 hHeld ⊢;refine p_ HT_ 1 (some 13) (bl 9 2) ?_;refine p_ HT_ 2 (some 14) (bl 9 6) ?_;refine p_ HT_ 7 (some 5) (bl 9 134) ?_;refine take_ (i:=3) (N:=some 15) (v:=?_) (a':=?_) #[false,true,true,true,false,false,false,true,false] rfl rfl (take_ofW HT_.out HW_.out (by kernel_rfl)) (fun _ _ _ h=>h) (Or.inl ⟨by rfl,?_⟩) hHeld ?_ ?_;rotate_left
 ·intro w' s0;go_simp
  with_reducible rfl
 rotate_left
 ·simp only [Act.put,List.setIfInBounds_toArray,List.set_cons_zero,List.set_cons_succ,i64_w,i32_w]
  rfl
 refine p_ HT_ 4 (some 16) (bl 9 158) ?_;refine o_ HT_ 0 (some 12) (bl 9 159) fun K hK=>?_;refine Kd.R_lit_step (Kd.int .i64) _ 3 ?hg (N:=12) ?hd (xs:=([1,2,4,0] : List Int)) (inner:=[.int .i64 1,.int .i64 2,.int .i64 4,.int .i64 0]) (ok:=fun _=>True) (okp:=fun _=>True) ?hr ?hp (fun _ hk=>hk) trivial (Below.refl _ _) (Nat.le_refl _) (by simp) ?_;(case hd=>rfl);(case hg=>rfl);(case hr=>first | (go_simp;done) | (go_simp;rfl));(case hp=>exact (Reps.one (show Kd.M (Kd.int .i64) _ _ _ 1 [.int .i64 1] from rfl) (Reps.one (show Kd.M (Kd.int .i64) _ _ _ 2 [.int .i64 2] from rfl) (Reps.one (show Kd.M (Kd.int .i64) _ _ _ 4 [.int .i64 4] from rfl) (Reps.one (show Kd.M (Kd.int .i64) _ _ _ 0 [.int .i64 0] from rfl) (Reps.none _ _))))));intro v290 w8 ho9 hb hg_ hnew_;clear hg_ hnew_
 (first | rw [← Ny289.out] at ho9 | (simp only [Int.reduceToNat] at ho9;rw [← Ny289.out] at ho9))
 have n0_:=am (Kd.R_lower ho9 (below_size (by exact bq HB.out)));have n1_:=am (below_step (by exact bq HB.out) hb);clear HB;have HO291:=n0_;have HB:=n1_;clear n0_ n1_;clear hb ho9;obtain ⟨Ao10,co10,eo10⟩:=Kd.R_slice HO291.out;subst eo10;obtain ⟨ado10,fo10,_⟩:=Kd.at_int (Kd.R_reads' HO291.out).2.2 0 (by decide) (by rw [Ny289.out];simp);cases fo10;refine hK.out _ _ (((HB.out.cell (World.block_lt_of_cell? w _ hw292_0)).trans hw292_0)) (fun hHeld=>?_);clear hK K;refine nm (some 12) ?_;refine p_ HT_ 5 (some 17) (bl 9 191) ?_;refine o_ HT_ 6 (some 18) (bl 9 255) fun K hK=>?_
 (have p293 : 0 ≤ ((Go.bits .and .u8 (rd l0 0) 3) : Int):=of_decide_eq_true (by first | (with_reducible assumption) | assumption);have q293 : (Go.bits .and .u8 (rd l0 0) 3) < (y289.length : Int):=of_decide_eq_true (by first | (with_reducible assumption) | assumption);obtain ⟨ad293,e293,hx293_0⟩:=Kd.at_int (Kd.R_reads' HO291.out).2.2 (Go.bits .and .u8 (rd l0 0) 3) p293 q293;obtain rfl : ado10 = ad293:=(by injection e293))
 refine value_ (w1:=?_) (v:=?_) (by rfl) rfl ?_ ?_;rotate_left 2
 ·go_simp
  constructor
  ·rfl
  ·rfl
 clear hx293_0;refine hK.out _ _ (((HB.out.cell (World.block_lt_of_cell? w _ hw292_0)).trans hw292_0)) (fun hHeld=>?_);clear hK K;refine nm (some 18) ?_;refine p_ HT_ 8 (some 6) (bl 9 511) ?_;refine done_ (done_of HT_.out (by kernel_rfl)) ?_
 go_upto_if 20 with (fail)
 go_cut [5,6] (fun v5 v6 wc=>∃ (kq : Nat) (x5_5 : Int) (x6_5 : Int),v5 = .int .i64 x5_5 ∧ v6 = .int .i64 x6_5 ∧ Aside0 (althingref1_Take.j0 kq l0 x5_5 x6_5 = some (r1,r2,r3)) ∧ Aside0 (kq ≤ k) ∧ Aside0 (Below w.heap.size w wc))
 case first=>
  have H:=HC6.out;clear HC6
  by_cases c11 : (rd y289 (Go.bits .and .u8 (rd l0 0) 3)) = 0
  rotate_left
  ·rw [if_neg c11] at H;have c11b0 : ((rd y289 (Go.bits .and .u8 (rd l0 0) 3)) == 0) = false:=beq_eq_false_iff_ne.mpr c11;have c11b1 : ((rd y289 (Go.bits .and .u8 (rd l0 0) 3)) != 0) = true:=bne_iff_ne.mpr c11
   (first | rw [c11b0] | (simp only [i64_w,i32_w];rw [c11b0]) | skip)
   have H':=am H;clear H
   go_wp2
   go_meet
   case rel=>exact ⟨_,(0),(rd y289 (Go.bits .and .u8 (rd l0 0) 3)),(by first | rfl | (simp;done) | (simp [*];done)),(by first | rfl | (simp;done) | (simp [*];done)),H',⟨by first | omega | exact Nat.le_refl _⟩,⟨by exact bq HB.out⟩⟩
  rw [if_pos c11] at H;have c11b0 : ((rd y289 (Go.bits .and .u8 (rd l0 0) 3)) == 0) = true:=beq_iff_eq.mpr c11;have c11b1 : ((rd y289 (Go.bits .and .u8 (rd l0 0) 3)) != 0) = false:=bne_eq_false_iff_eq.mpr c11;clear c11
  (first | rw [c11b0] | (simp only [i64_w,i32_w];rw [c11b0]) | skip)
  have H':=am H;clear H
  try go_wp2
  have n0_:=am (Kd.R_drew HO291.out);have n1_:=am (below_drew1 HB.out);clear HO291;clear HB;have HO291:=n0_;have HB:=n1_;clear n0_ n1_;have p294 : 0 ≤ (0 : Int):=(by omega);have q294 : 0 < (l0.length : Int):=of_decide_eq_true (by first | (with_reducible assumption) | assumption);obtain ⟨ad294,e294,hx294_0⟩:=Kd.at_int HR0.out 0 p294 q294;have hw294_0:=hx294_0
  (try rw [show ((0 : Int)).toNat = 0 from rfl] at hw294_0)
  (try rw [show 0 * 1 = 0 from rfl] at hw294_0)
  (try rw [Addr.add_zero'] at hw294_0)
  obtain rfl : ad292 = ad294:=(by injection e294);have qi294 : (0 < l0.length) = True:=eq_true (by omega)
  (try rw [show ((0 : Int)).toNat = 0 from rfl] at hx294_0)
  (try rw [Addr.add_zero'] at hx294_0)
  replace hx294_0:=(HB.out.cell (World.block_lt_of_cell? w _ hx294_0)).trans hx294_0;replace p294:=eq_true p294;replace q294:=eq_true q294;refine start_ (n:=8) (S:=fun w'=>w'.cell? ad292 = some (.int .u8 (rd l0 0))) (ds:=[]) (bl 8 0) (by kernel_rfl) rfl rfl (((HB.out.cell (World.block_lt_of_cell? w _ hw294_0)).trans hw294_0)) (fun hHeld=>?_);refine with_tabW althingref1_Take.tab5 althingref1_Take.bits5 (fun HT_ HW_=>?_);generalize w8.drew = w12 at HO291 HB hx294_0 hHeld ⊢;refine p_ HT_ 0 (some 21) (bl 8 1) ?_;refine p_ HT_ 1 (some 22) (bl 8 3) ?_;refine p_ HT_ 6 (some 5) (bl 8 67) ?_;refine take_ (i:=2) (N:=some 23) (v:=?_) (a':=?_) #[true,true,true,false,false,false,true,false] rfl rfl (take_ofW HT_.out HW_.out (by kernel_rfl)) (fun _ _ _ h=>h) (Or.inl ⟨by rfl,?_⟩) hHeld ?_ ?_;rotate_left
  ·intro w' s0;go_simp
   with_reducible rfl
  rotate_left
  ·simp only [Act.put,List.setIfInBounds_toArray,List.set_cons_zero,List.set_cons_succ,i64_w,i32_w]
   rfl
  refine p_ HT_ 3 (some 24) (bl 8 79) ?_;refine p_ HT_ 4 (some 25) (bl 8 95) ?_;refine p_ HT_ 5 (some 26) (bl 8 127) ?_;refine p_ HT_ 7 (some 6) (bl 8 255) ?_;refine done_ (done_of HT_.out (by kernel_rfl)) ?_
  try go_wp2
  go_meet
  case rel=>exact ⟨_,(1),(wrap64 ((wrap64 ((rd l0 0) / 4)) + 4)),(by first | rfl | (simp;done) | (simp [*];done)),(by first | rfl | (simp;done) | (simp [*];done)),H',⟨by first | omega | exact Nat.le_refl _⟩,⟨by exact bq HB.out⟩⟩
 case rest=>
  clear HC6
  try clear c1
  try clear c2
  try clear c2b0
  try clear c2b1
  try clear c2b2
  try clear p2
  try clear q2
  try clear hx2
  try clear qi2
  try clear c3
  try clear c3b0
  try clear c3b1
  try clear c4
  try clear c4b0
  try clear c5
  try clear c5b0
  try clear c6
  try clear p6
  try clear c11
  try clear c11b0
  try clear c11b1
  try clear hx292_0
  try clear hx293_0
  try clear hx294_0
  try clear p292
  try clear p293
  try clear p294
  try clear q292
  try clear q293
  try clear q294
  obtain ⟨kq,x5_5,x6_5,rfl,rfl,HA,HJ5,HB⟩:=hcut
  cases kq with
  | zero=>exact absurd HA.out (by simp [althingref1_Take.j0])
  | succ kj5=>
    have H:=HA.out;clear HA;simp only [althingref1_Take.j0] at H;have HC13:=am H;clear H
    go_upto_region 6 with (fail)
    go_cut [36] (fun v36 wc=>∃ (kq : Nat) (x36_12 : Bool),v36 = .bool x36_12 ∧ Aside0 (althingref1_Take.j1 kq l0 x5_5 x6_5 x36_12 = some (r1,r2,r3)) ∧ Aside0 (kq ≤ kj5) ∧ Aside0 (Below w.heap.size w wc))
    case first=>
     have H:=HC13.out;clear HC13
     by_cases c14 : x6_5 > 8
     ·rw [if_pos c14] at H;have c14b0 : decide (8 < x6_5) = true:=decide_eq_true c14;clear c14
      (first | rw [c14b0] | (simp only [i64_w,i32_w];rw [c14b0]) | skip)
      have H':=am H;clear H
      go_wp2
      go_meet
      case rel=>exact ⟨_,(true),(by first | rfl | (simp;done) | (simp [*];done)),H',⟨by have:=HJ5.out;first | omega | exact Nat.le_refl _⟩,⟨by exact bq HB.out⟩⟩
     rw [if_neg c14] at H;have c14b0 : decide (8 < x6_5) = false:=decide_eq_false c14;clear c14
     (first | rw [c14b0] | (simp only [i64_w,i32_w];rw [c14b0]) | skip)
     have H':=am H;clear H
     go_wp2
     go_meet
     case rel=>exact ⟨_,(decide ((wrap64 (x5_5 + x6_5)) > (l0.length : Int))),(by first | rfl | (simp;done) | (simp [*];done)),H',⟨by have:=HJ5.out;first | omega | exact Nat.le_refl _⟩,⟨by exact bq HB.out⟩⟩
    case rest=>
     clear HC13
     try clear c1
     try clear c2
     try clear c2b0
     try clear c2b1
     try clear c2b2
     try clear p2
     try clear q2
     try clear hx2
     try clear qi2
     try clear c3
     try clear c3b0
     try clear c3b1
     try clear c4
     try clear c4b0
     try clear c5
     try clear c5b0
     try clear c6
     try clear p6
     try clear c11
     try clear c11b0
     try clear c11b1
     try clear c14
     try clear c14b0
     try clear hx292_0
     try clear hx293_0
     try clear hx294_0
     try clear p2
     try clear p292
     try clear p293
     try clear p294
     try clear p6
     try clear q2
     try clear q292
     try clear q293
     try clear q294
     obtain ⟨kq,x36_12,rfl,HA,HJ12,HB⟩:=hcut
     cases kq with
     | zero=>exact absurd HA.out (by simp [althingref1_Take.j1])
     | succ kj12=>
       have H:=HA.out;clear HA;simp only [althingref1_Take.j1] at H
       by_cases c15 : x36_12 = true
       ·subst c15
        have H1 : (some (0,0,false)) = some (r1,r2,r3):=by rw [if_pos rfl] at H;exact H
        clear H;have H:=H1;clear H1;simp only [Option.some.injEq,Prod.mk.injEq] at H;obtain ⟨rfl,rfl,rfl⟩:=H
        go_wp2
        go_ret3
        exact ⟨by first | rfl | (simp [errW_none,errW_some] <;> rfl) | (simp [*,errW_none,errW_some] <;> rfl),by exact bq HB.out⟩
       replace c15:=Bool.eq_false_iff.mpr c15;subst c15
       have H1 : (althingref1_Take.l0 kj12 l0 x5_5 x6_5 0 (wrap64 (x6_5 - 1))) = some (r1,r2,r3):=by rw [if_neg (show ¬ (false = true) by decide)] at H;exact H
       clear H;have H:=H1;clear H1;have H':=am H;clear H
       go_wp2
       go_loopg [7,8] kj12 (fun kq v7 v8 w'=>∃ (x7_3 : Int) (x8_3 : Int),v7 = .int .i64 x7_3 ∧ v8 = .int .i64 x8_3 ∧ Aside0 (althingref1_Take.l0 kq l0 x5_5 x6_5 x7_3 x8_3 = some (r1,r2,r3)) ∧ Aside0 (kq ≤ kj12) ∧ Aside0 (Below w.heap.size w w'))
       case atStart=>exact ⟨(0),(wrap64 (x6_5 - 1)),(by first | rfl | (simp;done) | (simp [*];done)),(by first | rfl | (simp;done) | (simp [*];done)),H',⟨Nat.le_refl _⟩,⟨by exact bq HB.out⟩⟩
       case round=>
        clear H'
        try clear c1
        try clear c2
        try clear c2b0
        try clear c2b1
        try clear c2b2
        try clear p2
        try clear q2
        try clear hx2
        try clear qi2
        try clear c3
        try clear c3b0
        try clear c3b1
        try clear c4
        try clear c4b0
        try clear c5
        try clear c5b0
        try clear c6
        try clear p6
        try clear c11
        try clear c11b0
        try clear c11b1
        try clear c14
        try clear c14b0
        try clear c15
        try clear hx292_0
        try clear hx293_0
        try clear hx294_0
        try clear p2
        try clear p292
        try clear p293
        try clear p294
        try clear p6
        try clear q2
        try clear q292
        try clear q293
        try clear q294
        obtain ⟨x7_3,x8_3,rfl,rfl,HA,HK3,HB⟩:=hrel
        cases gk with
        | zero=>exact absurd HA.out (by simp [althingref1_Take.l0])
        | succ k3=>
          have H:=HA.out;clear HA;simp only [althingref1_Take.l0] at H
          by_cases c16 : x8_3 ≥ 0
          ·rw [if_pos c16] at H;have c16b0 : decide (0 ≤ x8_3) = true:=decide_eq_true c16;clear c16;obtain ⟨ji17,hji17⟩ : ∃ j_ : Int,(wrap64 (x5_5 + x8_3)) = j_:=⟨_,rfl⟩
           replace H : (if 0 ≤ (ji17) then (if (ji17) < (l0.length : Int) then (althingref1_Take.l0 k3 l0 x5_5 x6_5 (Go.bits .or .i64 (wrap64 (x7_3 * 256)) (wrap64 (rd l0 (ji17)))) (wrap64 (x8_3 - 1))) else (none)) else (none)) = some (r1,r2,r3):=by first | (rw [hji17] at H;exact H) | (simp only [hji17] at H ⊢;exact H)
           have hji17w : (IntKind.i64.wrap (x5_5 + x8_3)) = ji17:=(i64_w _).trans hji17
           by_cases c18 : 0 ≤ (ji17)
           rotate_left
           ·rw [if_neg c18] at H;exact absurd H (by simp)
           rw [if_pos c18] at H;have c18b0 : decide (0 ≤ (ji17)) = true:=decide_eq_true c18;clear c18
           by_cases c19 : (ji17) < (l0.length : Int)
           rotate_left
           ·rw [if_neg c19] at H;exact absurd H (by simp)
           rw [if_pos c19] at H;have c19b0 : decide ((ji17) < (l0.length : Int)) = true:=decide_eq_true c19;clear c19;have H':=am H;clear H;have p295 : 0 ≤ ((ji17) : Int):=of_decide_eq_true (by first | (with_reducible assumption) | assumption);have q295 : (ji17) < (l0.length : Int):=of_decide_eq_true (by first | (with_reducible assumption) | assumption);obtain ⟨ad295,e295,hx295_0⟩:=Kd.at_int HR0.out (ji17) p295 q295;obtain rfl : ad292 = ad295:=(by injection e295);replace hx295_0:=(HB.out.cell (World.block_lt_of_cell? w _ hx295_0)).trans hx295_0;replace p295:=eq_true p295;replace q295:=eq_true q295
           go_wp2
           go_roundg k3
           case measure=>have:=HJ5.out;have:=HJ12.out;have:=HK3.out;omega
           case rel=>exact ⟨(Go.bits .or .i64 (wrap64 (x7_3 * 256)) (wrap64 (rd l0 (ji17)))),(wrap64 (x8_3 - 1)),(by first | rfl | (simp;done) | (simp only [← hji17] <;> (first | rfl | simp)) | (simp [*];done)),(by first | rfl | (simp;done) | (simp [*];done)),H',⟨by have:=HJ5.out;have:=HJ12.out;have:=HK3.out;omega⟩,⟨by exact bq HB.out⟩⟩
          rw [if_neg c16] at H;have c16b0 : decide (0 ≤ x8_3) = false:=decide_eq_false c16;clear c16
          by_cases c20 : x5_5 = 0
          rotate_left
          ·rw [if_neg c20] at H;have c20b0 : (x5_5 == 0) = false:=beq_eq_false_iff_ne.mpr c20;have c20b1 : (x5_5 != 0) = true:=bne_iff_ne.mpr c20
           by_cases c40 : x7_3 < 0
           ·rw [if_pos c40] at H;have c40b0 : decide (x7_3 < 0) = true:=decide_eq_true c40;clear c40;simp only [Option.some.injEq,Prod.mk.injEq] at H;obtain ⟨rfl,rfl,rfl⟩:=H
            try go_wp2
            have n0_:=am (below_drew1 HB.out);clear HB;have HB:=n0_;clear n0_;refine start_ (n:=18) (S:=fun w'=>True) (ds:=[]) (bl 18 0) (by kernel_rfl) rfl rfl trivial (fun hHeld=>?_);refine with_tabW althingref1_Take.tab15 althingref1_Take.bits15 (fun HT_ HW_=>?_);generalize wr.drew = w41 at HB hHeld ⊢;refine p_ HT_ 0 (some 57) (bl 18 1) ?_;refine p_ HT_ 1 (some 58) (bl 18 3) ?_;refine p_ HT_ 2 (some 59) (bl 18 7) ?_;refine f_ HT_ 3 (some 60) (bl 18 15) ?_;refine f_ HT_ 4 (some 61) (bl 18 31) ?_;refine p_ HT_ 5 (some 62) (bl 18 63) ?_;refine p_ HT_ 6 (some 63) (bl 18 127) ?_;refine f_ HT_ 7 (some 64) (bl 18 255) ?_;refine f_ HT_ 8 (some 65) (bl 18 511) ?_;refine f_ HT_ 9 (some 66) (bl 18 1023) ?_;refine f_ HT_ 10 (some 67) (bl 18 2047) ?_;refine f_ HT_ 11 (some 68) (bl 18 4095) ?_;refine f_ HT_ 12 (some 69) (bl 18 8191) ?_;refine f_ HT_ 13 (some 70) (bl 18 16383) ?_;refine f_ HT_ 14 (some 71) (bl 18 32767) ?_;refine f_ HT_ 15 (some 72) (bl 18 65535) ?_;refine f_ HT_ 16 (some 73) (bl 18 131071) ?_;refine p_ HT_ 17 (some 74) (bl 18 262143) ?_;refine done_ (done_of HT_.out (by kernel_rfl)) ?_
            try go_wp2
            go_ret3
            exact ⟨by first | rfl | (simp [errW_none,errW_some] <;> rfl) | (simp [*,errW_none,errW_some] <;> rfl),by exact bq HB.out⟩
           rw [if_neg c40] at H;have c40b0 : decide (x7_3 < 0) = false:=decide_eq_false c40;clear c40
           by_cases c42 : x7_3 > 4611686018427387904
           ·rw [if_pos c42] at H;have c42b0 : decide (4611686018427387904 < x7_3) = true:=decide_eq_true c42;clear c42;simp only [Option.some.injEq,Prod.mk.injEq] at H;obtain ⟨rfl,rfl,rfl⟩:=H
            try go_wp2
            have n0_:=am (below_drew1 HB.out);clear HB;have HB:=n0_;clear n0_;refine start_ (n:=18) (S:=fun w'=>True) (ds:=[]) (bl 18 0) (by kernel_rfl) rfl rfl trivial (fun hHeld=>?_);refine with_tabW althingref1_Take.tab15 althingref1_Take.bits15 (fun HT_ HW_=>?_);generalize wr.drew = w43 at HB hHeld ⊢;refine p_ HT_ 0 (some 57) (bl 18 1) ?_;refine p_ HT_ 1 (some 58) (bl 18 3) ?_;refine p_ HT_ 2 (some 59) (bl 18 7) ?_;refine p_ HT_ 3 (some 60) (bl 18 15) ?_;refine p_ HT_ 4 (some 61) (bl 18 31) ?_;refine p_ HT_ 5 (some 62) (bl 18 63) ?_;refine p_ HT_ 6 (some 63) (bl 18 127) ?_;refine f_ HT_ 7 (some 64) (bl 18 255) ?_;refine f_ HT_ 8 (some 65) (bl 18 511) ?_;refine f_ HT_ 9 (some 66) (bl 18 1023) ?_;refine f_ HT_ 10 (some 67) (bl 18 2047) ?_;refine f_ HT_ 11 (some 68) (bl 18 4095) ?_;refine f_ HT_ 12 (some 69) (bl 18 8191) ?_;refine f_ HT_ 13 (some 70) (bl 18 16383) ?_;refine f_ HT_ 14 (some 71) (bl 18 32767) ?_;refine f_ HT_ 15 (some 72) (bl 18 65535) ?_;refine f_ HT_ 16 (some 73) (bl 18 131071) ?_;refine p_ HT_ 17 (some 74) (bl 18 262143) ?_;refine done_ (done_of HT_.out (by kernel_rfl)) ?_
            try go_wp2
            go_ret3
            exact ⟨by first | rfl | (simp [errW_none,errW_some] <;> rfl) | (simp [*,errW_none,errW_some] <;> rfl),by exact bq HB.out⟩
           rw [if_neg c42] at H;have c42b0 : decide (4611686018427387904 < x7_3) = false:=decide_eq_false c42;clear c42;replace H:=Option.bind_eq_some_iff.mp H;obtain ⟨t300,A440,H⟩:=H;replace H : (if 0 ≤ (wrap64 (x5_5 + x6_5)) then (if (wrap64 (x5_5 + x6_5)) ≤ (l0.length : Int) then (if (strOfNums t300).toList = (strOfNums (l0.take ((wrap64 (x5_5 + x6_5)) : Int).toNat)).toList then (some (x7_3,wrap64 (x5_5 + x6_5),true)) else (some (0,0,false))) else (none)) else (none)) = some (r1,r2,r3):=H;have A44:=am A440;clear A440;obtain ⟨ji45,hji45⟩ : ∃ j_ : Int,(wrap64 (x5_5 + x6_5)) = j_:=⟨_,rfl⟩
           replace H : (if 0 ≤ (ji45) then (if (ji45) ≤ (l0.length : Int) then (if (strOfNums t300).toList = (strOfNums (l0.take ((ji45) : Int).toNat)).toList then (some (x7_3,ji45,true)) else (some (0,0,false))) else (none)) else (none)) = some (r1,r2,r3):=by first | (rw [hji45] at H;exact H) | (simp only [hji45] at H ⊢;exact H)
           (try rw [hji45] at A44)
           have hji45w : (IntKind.i64.wrap (x5_5 + x6_5)) = ji45:=(i64_w _).trans hji45
           by_cases c46 : 0 ≤ (ji45)
           rotate_left
           ·rw [if_neg c46] at H;exact absurd H (by simp)
           rw [if_pos c46] at H;have c46b0:=eq_true c46;have c46b1 : decide (0 ≤ (ji45)) = true:=decide_eq_true c46;clear c46
           by_cases c47 : (ji45) ≤ (l0.length : Int)
           rotate_left
           ·rw [if_neg c47] at H;exact absurd H (by simp)
           rw [if_pos c47] at H;have c47b0:=eq_true c47;have c47b1 : decide ((ji45) ≤ (l0.length : Int)) = true:=decide_eq_true c47;clear c47
           by_cases c48 : (strOfNums t300).toList = (strOfNums (l0.take ((ji45) : Int).toNat)).toList
           rotate_left
           ·rw [if_neg c48] at H;have c48b0 : ((strOfNums t300).toList == (strOfNums (l0.take ((ji45) : Int).toNat)).toList) = false:=beq_eq_false_iff_ne.mpr c48;have c48b1 : ((strOfNums t300).toList != (strOfNums (l0.take ((ji45) : Int).toNat)).toList) = true:=bne_iff_ne.mpr c48;simp only [Option.some.injEq,Prod.mk.injEq] at H;obtain ⟨rfl,rfl,rfl⟩:=H
            try go_wp2
            have n0_:=am (below_drew1 HB.out);clear HB;have HB:=n0_;clear n0_;obtain ⟨i055,hi055,_,hsz55,_⟩:=info_parts info5;obtain ⟨hcut55,hA55,hC55⟩:=print_take_of (P:=Tryd.prog) (Value.int .u8) 0 26 5 .i64 Tryd.underlying26 hi055 hsz55 (some ad292) c0 l0 (ji45) (of_decide_eq_true (by first | (with_reducible assumption) | assumption)) (of_decide_eq_true (by first | (with_reducible assumption) | assumption)) HC0.out;have HR303:=am (Kd.C_of_reads (h1:=fun _=>rfl) (hA55 _ (Kd.reads_of_C HR0.out)));have HC303:=am hC55;clear hA55 hC55 hi055 hsz55;refine start_ (n:=18) (S:=fun w'=>(convert 26 9 (.slice (some ad292) (ji45).toNat c0)).run Tryd.prog w' = .ok (.string (strOfNums (l0.take ((ji45) : Int).toNat))) w') (ds:=[]) (bl 18 0) (by kernel_rfl) rfl rfl ((by have h_:=Kd.C_string (P:=Tryd.prog) (A:=(some ad292)) (c:=c0) Tryd.underlying26 Tryd.underlying5 Tryd.underlying9 (Kd.C_below HR303.out HB.out);rw [show (l0.take ((ji45) : Int).toNat).length = (ji45).toNat from (by rw [List.length_take];have h_ : ((ji45) : Int) ≤ (l0.length : Int):=of_decide_eq_true (by first | (with_reducible assumption) | assumption);omega)] at h_;exact h_)) (fun hHeld=>?_);refine with_tabW althingref1_Take.tab15 althingref1_Take.bits15 (fun HT_ HW_=>?_);generalize wr.drew = w54 at HB HR303 hHeld ⊢;refine p_ HT_ 0 (some 57) (bl 18 1) ?_;refine p_ HT_ 1 (some 58) (bl 18 3) ?_;refine p_ HT_ 2 (some 59) (bl 18 7) ?_;refine p_ HT_ 3 (some 60) (bl 18 15) ?_;refine p_ HT_ 4 (some 61) (bl 18 31) ?_;refine p_ HT_ 5 (some 62) (bl 18 63) ?_;refine p_ HT_ 6 (some 63) (bl 18 127) ?_;refine p_ HT_ 7 (some 64) (bl 18 255) ?_;refine p_ HT_ 10 (some 67) (bl 18 1279) ?_;refine p_ HT_ 11 (some 68) (bl 18 3327) ?_;refine p_ HT_ 12 (some 69) (bl 18 7423) ?_;refine p_ HT_ 13 (some 70) (bl 18 15615) ?_;refine p_ HT_ 14 (some 71) (bl 18 31999) ?_;refine take_ (i:=15) (N:=some 72) (v:=?_) (a':=?_) #[true,true,true,true,true,true,true,true,false,false,true,true,true,true,true,true,false,false] rfl rfl (take_ofW HT_.out HW_.out (by kernel_rfl)) (fun _ _ _ h=>h) (Or.inl ⟨by rfl,?_⟩) hHeld ?_ ?_;rotate_left
            ·intro w' s0;go_simp
             with_reducible rfl
            rotate_left
            ·simp only [Act.put,List.setIfInBounds_toArray,List.set_cons_zero,List.set_cons_succ,i64_w,i32_w]
             rfl
            refine o_ HT_ 8 (some 65) (bl 18 65023) fun K hK=>?_;refine goes_ Tryd.func58 (by kernel_rfl) rfl #[.int .i64 x7_3] (by rfl) rfl rfl (by (try simp only [List.map_toArray,List.map_cons,List.map_nil]);first | done | rfl | (simp only [List.length_drop,List.length_take];rfl)) ?_
            with_reducible refine (althingref1_Num.calls k3 x7_3 t300 _ A44.out).mono ?_
            rintro e w56 ⟨v301,rfl,ho0,hb⟩;refine ⟨_,rfl,?_⟩;have n0_:=am (Kd.R_lower ho0 (below_size (by exact bq HB.out)));have n1_:=am (below_step (by exact bq HB.out) hb);clear HB;have HO302:=n0_;have HB:=n1_;clear n0_ n1_
            (try clear hb)
            (try clear hb2)
            (try clear hk)
            (try clear hi)
            (try clear ho0)
            refine hK.out _ _ ((by have h_:=Kd.C_string (P:=Tryd.prog) (A:=(some ad292)) (c:=c0) Tryd.underlying26 Tryd.underlying5 Tryd.underlying9 (Kd.C_below HR303.out HB.out);rw [show (l0.take ((ji45) : Int).toNat).length = (ji45).toNat from (by rw [List.length_take];have h_ : ((ji45) : Int) ≤ (l0.length : Int):=of_decide_eq_true (by first | (with_reducible assumption) | assumption);omega)] at h_;exact h_)) (fun hHeld=>?_);clear hK K;refine nm (some 65) ?_;refine o_ HT_ 9 (some 66) (bl 18 65535) fun K hK=>?_;have hcv57:=own_string (P:=Tryd.prog) Tryd.underlying26 Tryd.underlying5 Tryd.underlying9 (Kd.own_of_R HO302.out);refine value_ (w1:=?_) (v:=?_) (by rfl) rfl ?_ ?_;rotate_left 2
            ·go_simp
             constructor
             ·rfl
             ·rfl
            clear hcv57;refine hK.out _ _ ((by have h_:=Kd.C_string (P:=Tryd.prog) (A:=(some ad292)) (c:=c0) Tryd.underlying26 Tryd.underlying5 Tryd.underlying9 (Kd.C_below HR303.out HB.out);rw [show (l0.take ((ji45) : Int).toNat).length = (ji45).toNat from (by rw [List.length_take];have h_ : ((ji45) : Int) ≤ (l0.length : Int):=of_decide_eq_true (by first | (with_reducible assumption) | assumption);omega)] at h_;exact h_)) (fun hHeld=>?_);clear hK K;refine nm (some 66) ?_;refine p_ HT_ 16 (some 73) (bl 18 131071) ?_;refine p_ HT_ 17 (some 74) (bl 18 262143) ?_;refine done_ (done_of HT_.out (by kernel_rfl)) ?_
            try go_wp2
            go_ret3
            exact ⟨by first | rfl | (simp [errW_none,errW_some] <;> rfl) | (simp only [← hji45];first | rfl | (simp [errW_none,errW_some] <;> rfl)) | (simp [*,errW_none,errW_some] <;> rfl),by exact bq HB.out⟩
           rw [if_pos c48] at H;have c48b0 : ((strOfNums t300).toList == (strOfNums (l0.take ((ji45) : Int).toNat)).toList) = true:=beq_iff_eq.mpr c48;have c48b1 : ((strOfNums t300).toList != (strOfNums (l0.take ((ji45) : Int).toNat)).toList) = false:=bne_eq_false_iff_eq.mpr c48;clear c48;simp only [Option.some.injEq,Prod.mk.injEq] at H;obtain ⟨rfl,rfl,rfl⟩:=H
           try go_wp2
           have n0_:=am (below_drew1 HB.out);clear HB;have HB:=n0_;clear n0_;obtain ⟨i050,hi050,_,hsz50,_⟩:=info_parts info5;obtain ⟨hcut50,hA50,hC50⟩:=print_take_of (P:=Tryd.prog) (Value.int .u8) 0 26 5 .i64 Tryd.underlying26 hi050 hsz50 (some ad292) c0 l0 (ji45) (of_decide_eq_true (by first | (with_reducible assumption) | assumption)) (of_decide_eq_true (by first | (with_reducible assumption) | assumption)) HC0.out;have HR303:=am (Kd.C_of_reads (h1:=fun _=>rfl) (hA50 _ (Kd.reads_of_C HR0.out)));have HC303:=am hC50;clear hA50 hC50 hi050 hsz50;refine start_ (n:=18) (S:=fun w'=>(convert 26 9 (.slice (some ad292) (ji45).toNat c0)).run Tryd.prog w' = .ok (.string (strOfNums (l0.take ((ji45) : Int).toNat))) w') (ds:=[]) (bl 18 0) (by kernel_rfl) rfl rfl ((by have h_:=Kd.C_string (P:=Tryd.prog) (A:=(some ad292)) (c:=c0) Tryd.underlying26 Tryd.underlying5 Tryd.underlying9 (Kd.C_below HR303.out HB.out);rw [show (l0.take ((ji45) : Int).toNat).length = (ji45).toNat from (by rw [List.length_take];have h_ : ((ji45) : Int) ≤ (l0.length : Int):=of_decide_eq_true (by first | (with_reducible assumption) | assumption);omega)] at h_;exact h_)) (fun hHeld=>?_);refine with_tabW althingref1_Take.tab15 althingref1_Take.bits15 (fun HT_ HW_=>?_);generalize wr.drew = w49 at HB HR303 hHeld ⊢;refine p_ HT_ 0 (some 57) (bl 18 1) ?_;refine p_ HT_ 1 (some 58) (bl 18 3) ?_;refine p_ HT_ 2 (some 59) (bl 18 7) ?_;refine p_ HT_ 3 (some 60) (bl 18 15) ?_;refine p_ HT_ 4 (some 61) (bl 18 31) ?_;refine p_ HT_ 5 (some 62) (bl 18 63) ?_;refine p_ HT_ 6 (some 63) (bl 18 127) ?_;refine p_ HT_ 7 (some 64) (bl 18 255) ?_;refine p_ HT_ 10 (some 67) (bl 18 1279) ?_;refine p_ HT_ 11 (some 68) (bl 18 3327) ?_;refine p_ HT_ 12 (some 69) (bl 18 7423) ?_;refine p_ HT_ 13 (some 70) (bl 18 15615) ?_;refine p_ HT_ 14 (some 71) (bl 18 31999) ?_;refine take_ (i:=15) (N:=some 72) (v:=?_) (a':=?_) #[true,true,true,true,true,true,true,true,false,false,true,true,true,true,true,true,false,false] rfl rfl (take_ofW HT_.out HW_.out (by kernel_rfl)) (fun _ _ _ h=>h) (Or.inl ⟨by rfl,?_⟩) hHeld ?_ ?_;rotate_left
           ·intro w' s0;go_simp
            with_reducible rfl
           rotate_left
           ·simp only [Act.put,List.setIfInBounds_toArray,List.set_cons_zero,List.set_cons_succ,i64_w,i32_w]
            rfl
           refine o_ HT_ 8 (some 65) (bl 18 65023) fun K hK=>?_;refine goes_ Tryd.func58 (by kernel_rfl) rfl #[.int .i64 x7_3] (by rfl) rfl rfl (by (try simp only [List.map_toArray,List.map_cons,List.map_nil]);first | done | rfl | (simp only [List.length_drop,List.length_take];rfl)) ?_
           with_reducible refine (althingref1_Num.calls k3 x7_3 t300 _ A44.out).mono ?_
           rintro e w51 ⟨v301,rfl,ho0,hb⟩;refine ⟨_,rfl,?_⟩;have n0_:=am (Kd.R_lower ho0 (below_size (by exact bq HB.out)));have n1_:=am (below_step (by exact bq HB.out) hb);clear HB;have HO302:=n0_;have HB:=n1_;clear n0_ n1_
           (try clear hb)
           (try clear hb2)
           (try clear hk)
           (try clear hi)
           (try clear ho0)
           refine hK.out _ _ ((by have h_:=Kd.C_string (P:=Tryd.prog) (A:=(some ad292)) (c:=c0) Tryd.underlying26 Tryd.underlying5 Tryd.underlying9 (Kd.C_below HR303.out HB.out);rw [show (l0.take ((ji45) : Int).toNat).length = (ji45).toNat from (by rw [List.length_take];have h_ : ((ji45) : Int) ≤ (l0.length : Int):=of_decide_eq_true (by first | (with_reducible assumption) | assumption);omega)] at h_;exact h_)) (fun hHeld=>?_);clear hK K;refine nm (some 65) ?_;refine o_ HT_ 9 (some 66) (bl 18 65535) fun K hK=>?_;have hcv52:=own_string (P:=Tryd.prog) Tryd.underlying26 Tryd.underlying5 Tryd.underlying9 (Kd.own_of_R HO302.out);refine value_ (w1:=?_) (v:=?_) (by rfl) rfl ?_ ?_;rotate_left 2
           ·go_simp
            constructor
            ·rfl
            ·rfl
           clear hcv52;refine hK.out _ _ ((by have h_:=Kd.C_string (P:=Tryd.prog) (A:=(some ad292)) (c:=c0) Tryd.underlying26 Tryd.underlying5 Tryd.underlying9 (Kd.C_below HR303.out HB.out);rw [show (l0.take ((ji45) : Int).toNat).length = (ji45).toNat from (by rw [List.length_take];have h_ : ((ji45) : Int) ≤ (l0.length : Int):=of_decide_eq_true (by first | (with_reducible assumption) | assumption);omega)] at h_;exact h_)) (fun hHeld=>?_);clear hK K;refine nm (some 66) ?_;refine p_ HT_ 16 (some 73) (bl 18 131071) ?_;refine p_ HT_ 17 (some 74) (bl 18 262143) ?_;refine done_ (done_of HT_.out (by kernel_rfl)) ?_
           try go_wp2
           go_ret3
           exact ⟨by first | rfl | (simp [errW_none,errW_some] <;> rfl) | (simp only [← hji45];first | rfl | (simp [errW_none,errW_some] <;> rfl)) | (simp [*,errW_none,errW_some] <;> rfl),by exact bq HB.out⟩
          rw [if_pos c20] at H;have c20b0 : (x5_5 == 0) = true:=beq_iff_eq.mpr c20;have c20b1 : (x5_5 != 0) = false:=bne_eq_false_iff_eq.mpr c20;clear c20
          by_cases c21 : (x7_3 / 4) < 0
          ·rw [if_pos c21] at H;have c21b0 : decide ((x7_3 / 4) < 0) = true:=decide_eq_true c21;clear c21;simp only [Option.some.injEq,Prod.mk.injEq] at H;obtain ⟨rfl,rfl,rfl⟩:=H
           try go_wp2
           have n0_:=am (below_drew1 HB.out);clear HB;have HB:=n0_;clear n0_;refine start_ (n:=18) (S:=fun w'=>True) (ds:=[]) (bl 18 0) (by kernel_rfl) rfl rfl trivial (fun hHeld=>?_);refine with_tabW althingref1_Take.tab15 althingref1_Take.bits15 (fun HT_ HW_=>?_);generalize wr.drew = w22 at HB hHeld ⊢;refine p_ HT_ 0 (some 57) (bl 18 1) ?_;refine p_ HT_ 1 (some 58) (bl 18 3) ?_;refine p_ HT_ 2 (some 59) (bl 18 7) ?_;refine f_ HT_ 3 (some 60) (bl 18 15) ?_;refine f_ HT_ 4 (some 61) (bl 18 31) ?_;refine p_ HT_ 5 (some 62) (bl 18 63) ?_;refine p_ HT_ 6 (some 63) (bl 18 127) ?_;refine f_ HT_ 7 (some 64) (bl 18 255) ?_;refine f_ HT_ 8 (some 65) (bl 18 511) ?_;refine f_ HT_ 9 (some 66) (bl 18 1023) ?_;refine f_ HT_ 10 (some 67) (bl 18 2047) ?_;refine f_ HT_ 11 (some 68) (bl 18 4095) ?_;refine f_ HT_ 12 (some 69) (bl 18 8191) ?_;refine f_ HT_ 13 (some 70) (bl 18 16383) ?_;refine f_ HT_ 14 (some 71) (bl 18 32767) ?_;refine f_ HT_ 15 (some 72) (bl 18 65535) ?_;refine f_ HT_ 16 (some 73) (bl 18 131071) ?_;refine p_ HT_ 17 (some 74) (bl 18 262143) ?_;refine done_ (done_of HT_.out (by kernel_rfl)) ?_
           try go_wp2
           go_ret3
           exact ⟨by first | rfl | (simp [errW_none,errW_some] <;> rfl) | (simp [*,errW_none,errW_some] <;> rfl),by exact bq HB.out⟩
          rw [if_neg c21] at H;have c21b0 : decide ((x7_3 / 4) < 0) = false:=decide_eq_false c21;clear c21
          by_cases c23 : (x7_3 / 4) > 4611686018427387904
          ·rw [if_pos c23] at H;have c23b0 : decide (4611686018427387904 < (x7_3 / 4)) = true:=decide_eq_true c23;clear c23;simp only [Option.some.injEq,Prod.mk.injEq] at H;obtain ⟨rfl,rfl,rfl⟩:=H
           try go_wp2
           have n0_:=am (below_drew1 HB.out);clear HB;have HB:=n0_;clear n0_;refine start_ (n:=18) (S:=fun w'=>True) (ds:=[]) (bl 18 0) (by kernel_rfl) rfl rfl trivial (fun hHeld=>?_);refine with_tabW althingref1_Take.tab15 althingref1_Take.bits15 (fun HT_ HW_=>?_);generalize wr.drew = w24 at HB hHeld ⊢;refine p_ HT_ 0 (some 57) (bl 18 1) ?_;refine p_ HT_ 1 (some 58) (bl 18 3) ?_;refine p_ HT_ 2 (some 59) (bl 18 7) ?_;refine p_ HT_ 3 (some 60) (bl 18 15) ?_;refine p_ HT_ 4 (some 61) (bl 18 31) ?_;refine p_ HT_ 5 (some 62) (bl 18 63) ?_;refine p_ HT_ 6 (some 63) (bl 18 127) ?_;refine f_ HT_ 7 (some 64) (bl 18 255) ?_;refine f_ HT_ 8 (some 65) (bl 18 511) ?_;refine f_ HT_ 9 (some 66) (bl 18 1023) ?_;refine f_ HT_ 10 (some 67) (bl 18 2047) ?_;refine f_ HT_ 11 (some 68) (bl 18 4095) ?_;refine f_ HT_ 12 (some 69) (bl 18 8191) ?_;refine f_ HT_ 13 (some 70) (bl 18 16383) ?_;refine f_ HT_ 14 (some 71) (bl 18 32767) ?_;refine f_ HT_ 15 (some 72) (bl 18 65535) ?_;refine f_ HT_ 16 (some 73) (bl 18 131071) ?_;refine p_ HT_ 17 (some 74) (bl 18 262143) ?_;refine done_ (done_of HT_.out (by kernel_rfl)) ?_
           try go_wp2
           go_ret3
           exact ⟨by first | rfl | (simp [errW_none,errW_some] <;> rfl) | (simp [*,errW_none,errW_some] <;> rfl),by exact bq HB.out⟩
          rw [if_neg c23] at H;have c23b0 : decide (4611686018427387904 < (x7_3 / 4)) = false:=decide_eq_false c23;clear c23;replace H:=Option.bind_eq_some_iff.mp H;obtain ⟨t296,A250,H⟩:=H;replace H : (if 0 ≤ (wrap64 (x5_5 + x6_5)) then (if (wrap64 (x5_5 + x6_5)) ≤ (l0.length : Int) then (if (strOfNums t296).toList = (strOfNums (l0.take ((wrap64 (x5_5 + x6_5)) : Int).toNat)).toList then (some (x7_3 / 4,wrap64 (x5_5 + x6_5),true)) else (some (0,0,false))) else (none)) else (none)) = some (r1,r2,r3):=H;have A25:=am A250;clear A250;obtain ⟨ji26,hji26⟩ : ∃ j_ : Int,(wrap64 (x5_5 + x6_5)) = j_:=⟨_,rfl⟩
          replace H : (if 0 ≤ (ji26) then (if (ji26) ≤ (l0.length : Int) then (if (strOfNums t296).toList = (strOfNums (l0.take ((ji26) : Int).toNat)).toList then (some (x7_3 / 4,ji26,true)) else (some (0,0,false))) else (none)) else (none)) = some (r1,r2,r3):=by first | (rw [hji26] at H;exact H) | (simp only [hji26] at H ⊢;exact H)
          (try rw [hji26] at A25)
          have hji26w : (IntKind.i64.wrap (x5_5 + x6_5)) = ji26:=(i64_w _).trans hji26
          by_cases c27 : 0 ≤ (ji26)
          rotate_left
          ·rw [if_neg c27] at H;exact absurd H (by simp)
          rw [if_pos c27] at H;have c27b0:=eq_true c27;have c27b1 : decide (0 ≤ (ji26)) = true:=decide_eq_true c27;clear c27
          by_cases c28 : (ji26) ≤ (l0.length : Int)
          rotate_left
          ·rw [if_neg c28] at H;exact absurd H (by simp)
          rw [if_pos c28] at H;have c28b0:=eq_true c28;have c28b1 : decide ((ji26) ≤ (l0.length : Int)) = true:=decide_eq_true c28;clear c28
          by_cases c29 : (strOfNums t296).toList = (strOfNums (l0.take ((ji26) : Int).toNat)).toList
          rotate_left
          ·rw [if_neg c29] at H;have c29b0 : ((strOfNums t296).toList == (strOfNums (l0.take ((ji26) : Int).toNat)).toList) = false:=beq_eq_false_iff_ne.mpr c29;have c29b1 : ((strOfNums t296).toList != (strOfNums (l0.take ((ji26) : Int).toNat)).toList) = true:=bne_iff_ne.mpr c29;simp only [Option.some.injEq,Prod.mk.injEq] at H;obtain ⟨rfl,rfl,rfl⟩:=H
           try go_wp2
           have n0_:=am (below_drew1 HB.out);clear HB;have HB:=n0_;clear n0_;obtain ⟨i036,hi036,_,hsz36,_⟩:=info_parts info5;obtain ⟨hcut36,hA36,hC36⟩:=print_take_of (P:=Tryd.prog) (Value.int .u8) 0 26 5 .i64 Tryd.underlying26 hi036 hsz36 (some ad292) c0 l0 (ji26) (of_decide_eq_true (by first | (with_reducible assumption) | assumption)) (of_decide_eq_true (by first | (with_reducible assumption) | assumption)) HC0.out;have HR299:=am (Kd.C_of_reads (h1:=fun _=>rfl) (hA36 _ (Kd.reads_of_C HR0.out)));have HC299:=am hC36;clear hA36 hC36 hi036 hsz36;refine start_ (n:=18) (S:=fun w'=>(convert 26 9 (.slice (some ad292) (ji26).toNat c0)).run Tryd.prog w' = .ok (.string (strOfNums (l0.take ((ji26) : Int).toNat))) w') (ds:=[]) (bl 18 0) (by kernel_rfl) rfl rfl ((by have h_:=Kd.C_string (P:=Tryd.prog) (A:=(some ad292)) (c:=c0) Tryd.underlying26 Tryd.underlying5 Tryd.underlying9 (Kd.C_below HR299.out HB.out);rw [show (l0.take ((ji26) : Int).toNat).length = (ji26).toNat from (by rw [List.length_take];have h_ : ((ji26) : Int) ≤ (l0.length : Int):=of_decide_eq_true (by first | (with_reducible assumption) | assumption);omega)] at h_;exact h_)) (fun hHeld=>?_);refine with_tabW althingref1_Take.tab15 althingref1_Take.bits15 (fun HT_ HW_=>?_);generalize wr.drew = w35 at HB HR299 hHeld ⊢;refine p_ HT_ 0 (some 57) (bl 18 1) ?_;refine p_ HT_ 1 (some 58) (bl 18 3) ?_;refine p_ HT_ 2 (some 59) (bl 18 7) ?_;refine p_ HT_ 3 (some 60) (bl 18 15) ?_;refine p_ HT_ 4 (some 61) (bl 18 31) ?_;refine p_ HT_ 5 (some 62) (bl 18 63) ?_;refine p_ HT_ 6 (some 63) (bl 18 127) ?_;refine p_ HT_ 7 (some 64) (bl 18 255) ?_;refine p_ HT_ 10 (some 67) (bl 18 1279) ?_;refine p_ HT_ 11 (some 68) (bl 18 3327) ?_;refine p_ HT_ 12 (some 69) (bl 18 7423) ?_;refine p_ HT_ 13 (some 70) (bl 18 15615) ?_;refine p_ HT_ 14 (some 71) (bl 18 31999) ?_;refine take_ (i:=15) (N:=some 72) (v:=?_) (a':=?_) #[true,true,true,true,true,true,true,true,false,false,true,true,true,true,true,true,false,false] rfl rfl (take_ofW HT_.out HW_.out (by kernel_rfl)) (fun _ _ _ h=>h) (Or.inl ⟨by rfl,?_⟩) hHeld ?_ ?_;rotate_left
           ·intro w' s0;go_simp
            with_reducible rfl
           rotate_left
           ·simp only [Act.put,List.setIfInBounds_toArray,List.set_cons_zero,List.set_cons_succ,i64_w,i32_w]
            rfl
           refine o_ HT_ 8 (some 65) (bl 18 65023) fun K hK=>?_;refine goes_ Tryd.func58 (by kernel_rfl) rfl #[.int .i64 (x7_3 / 4)] (by rfl) rfl rfl (by (try simp only [List.map_toArray,List.map_cons,List.map_nil]);first | done | rfl | (simp only [List.length_drop,List.length_take];rfl)) ?_
           with_reducible refine (althingref1_Num.calls k3 (x7_3 / 4) t296 _ A25.out).mono ?_
           rintro e w37 ⟨v297,rfl,ho0,hb⟩;refine ⟨_,rfl,?_⟩;have n0_:=am (Kd.R_lower ho0 (below_size (by exact bq HB.out)));have n1_:=am (below_step (by exact bq HB.out) hb);clear HB;have HO298:=n0_;have HB:=n1_;clear n0_ n1_
           (try clear hb)
           (try clear hb2)
           (try clear hk)
           (try clear hi)
           (try clear ho0)
           refine hK.out _ _ ((by have h_:=Kd.C_string (P:=Tryd.prog) (A:=(some ad292)) (c:=c0) Tryd.underlying26 Tryd.underlying5 Tryd.underlying9 (Kd.C_below HR299.out HB.out);rw [show (l0.take ((ji26) : Int).toNat).length = (ji26).toNat from (by rw [List.length_take];have h_ : ((ji26) : Int) ≤ (l0.length : Int):=of_decide_eq_true (by first | (with_reducible assumption) | assumption);omega)] at h_;exact h_)) (fun hHeld=>?_);clear hK K;refine nm (some 65) ?_;refine o_ HT_ 9 (some 66) (bl 18 65535) fun K hK=>?_;have hcv38:=own_string (P:=Tryd.prog) Tryd.underlying26 Tryd.underlying5 Tryd.underlying9 (Kd.own_of_R HO298.out);refine value_ (w1:=?_) (v:=?_) (by rfl) rfl ?_ ?_;rotate_left 2
           ·go_simp
            constructor
            ·rfl
            ·rfl
           clear hcv38;refine hK.out _ _ ((by have h_:=Kd.C_string (P:=Tryd.prog) (A:=(some ad292)) (c:=c0) Tryd.underlying26 Tryd.underlying5 Tryd.underlying9 (Kd.C_below HR299.out HB.out);rw [show (l0.take ((ji26) : Int).toNat).length = (ji26).toNat from (by rw [List.length_take];have h_ : ((ji26) : Int) ≤ (l0.length : Int):=of_decide_eq_true (by first | (with_reducible assumption) | assumption);omega)] at h_;exact h_)) (fun hHeld=>?_);clear hK K;refine nm (some 66) ?_;refine p_ HT_ 16 (some 73) (bl 18 131071) ?_;refine p_ HT_ 17 (some 74) (bl 18 262143) ?_;refine done_ (done_of HT_.out (by kernel_rfl)) ?_
           try go_wp2
           go_ret3
           exact ⟨by first | rfl | (simp [errW_none,errW_some] <;> rfl) | (simp only [← hji26];first | rfl | (simp [errW_none,errW_some] <;> rfl)) | (simp [*,errW_none,errW_some] <;> rfl),by exact bq HB.out⟩
          rw [if_pos c29] at H;have c29b0 : ((strOfNums t296).toList == (strOfNums (l0.take ((ji26) : Int).toNat)).toList) = true:=beq_iff_eq.mpr c29;have c29b1 : ((strOfNums t296).toList != (strOfNums (l0.take ((ji26) : Int).toNat)).toList) = false:=bne_eq_false_iff_eq.mpr c29;clear c29;simp only [Option.some.injEq,Prod.mk.injEq] at H;obtain ⟨rfl,rfl,rfl⟩:=H
          try go_wp2
          have n0_:=am (below_drew1 HB.out);clear HB;have HB:=n0_;clear n0_;obtain ⟨i031,hi031,_,hsz31,_⟩:=info_parts info5;obtain ⟨hcut31,hA31,hC31⟩:=print_take_of (P:=Tryd.prog) (Value.int .u8) 0 26 5 .i64 Tryd.underlying26 hi031 hsz31 (some ad292) c0 l0 (ji26) (of_decide_eq_true (by first | (with_reducible assumption) | assumption)) (of_decide_eq_true (by first | (with_reducible assumption) | assumption)) HC0.out;have HR299:=am (Kd.C_of_reads (h1:=fun _=>rfl) (hA31 _ (Kd.reads_of_C HR0.out)));have HC299:=am hC31;clear hA31 hC31 hi031 hsz31;refine start_ (n:=18) (S:=fun w'=>(convert 26 9 (.slice (some ad292) (ji26).toNat c0)).run Tryd.prog w' = .ok (.string (strOfNums (l0.take ((ji26) : Int).toNat))) w') (ds:=[]) (bl 18 0) (by kernel_rfl) rfl rfl ((by have h_:=Kd.C_string (P:=Tryd.prog) (A:=(some ad292)) (c:=c0) Tryd.underlying26 Tryd.underlying5 Tryd.underlying9 (Kd.C_below HR299.out HB.out);rw [show (l0.take ((ji26) : Int).toNat).length = (ji26).toNat from (by rw [List.length_take];have h_ : ((ji26) : Int) ≤ (l0.length : Int):=of_decide_eq_true (by first | (with_reducible assumption) | assumption);omega)] at h_;exact h_)) (fun hHeld=>?_);refine with_tabW althingref1_Take.tab15 althingref1_Take.bits15 (fun HT_ HW_=>?_);generalize wr.drew = w30 at HB HR299 hHeld ⊢;refine p_ HT_ 0 (some 57) (bl 18 1) ?_;refine p_ HT_ 1 (some 58) (bl 18 3) ?_;refine p_ HT_ 2 (some 59) (bl 18 7) ?_;refine p_ HT_ 3 (some 60) (bl 18 15) ?_;refine p_ HT_ 4 (some 61) (bl 18 31) ?_;refine p_ HT_ 5 (some 62) (bl 18 63) ?_;refine p_ HT_ 6 (some 63) (bl 18 127) ?_;refine p_ HT_ 7 (some 64) (bl 18 255) ?_;refine p_ HT_ 10 (some 67) (bl 18 1279) ?_;refine p_ HT_ 11 (some 68) (bl 18 3327) ?_;refine p_ HT_ 12 (some 69) (bl 18 7423) ?_;refine p_ HT_ 13 (some 70) (bl 18 15615) ?_;refine p_ HT_ 14 (some 71) (bl 18 31999) ?_;refine take_ (i:=15) (N:=some 72) (v:=?_) (a':=?_) #[true,true,true,true,true,true,true,true,false,false,true,true,true,true,true,true,false,false] rfl rfl (take_ofW HT_.out HW_.out (by kernel_rfl)) (fun _ _ _ h=>h) (Or.inl ⟨by rfl,?_⟩) hHeld ?_ ?_;rotate_left
          ·intro w' s0;go_simp
           with_reducible rfl
          rotate_left
          ·simp only [Act.put,List.setIfInBounds_toArray,List.set_cons_zero,List.set_cons_succ,i64_w,i32_w]
           rfl
          refine o_ HT_ 8 (some 65) (bl 18 65023) fun K hK=>?_;refine goes_ Tryd.func58 (by kernel_rfl) rfl #[.int .i64 (x7_3 / 4)] (by rfl) rfl rfl (by (try simp only [List.map_toArray,List.map_cons,List.map_nil]);first | done | rfl | (simp only [List.length_drop,List.length_take];rfl)) ?_
          with_reducible refine (althingref1_Num.calls k3 (x7_3 / 4) t296 _ A25.out).mono ?_
          rintro e w32 ⟨v297,rfl,ho0,hb⟩;refine ⟨_,rfl,?_⟩;have n0_:=am (Kd.R_lower ho0 (below_size (by exact bq HB.out)));have n1_:=am (below_step (by exact bq HB.out) hb);clear HB;have HO298:=n0_;have HB:=n1_;clear n0_ n1_
          (try clear hb)
          (try clear hb2)
          (try clear hk)
          (try clear hi)
          (try clear ho0)
          refine hK.out _ _ ((by have h_:=Kd.C_string (P:=Tryd.prog) (A:=(some ad292)) (c:=c0) Tryd.underlying26 Tryd.underlying5 Tryd.underlying9 (Kd.C_below HR299.out HB.out);rw [show (l0.take ((ji26) : Int).toNat).length = (ji26).toNat from (by rw [List.length_take];have h_ : ((ji26) : Int) ≤ (l0.length : Int):=of_decide_eq_true (by first | (with_reducible assumption) | assumption);omega)] at h_;exact h_)) (fun hHeld=>?_);clear hK K;refine nm (some 65) ?_;refine o_ HT_ 9 (some 66) (bl 18 65535) fun K hK=>?_;have hcv33:=own_string (P:=Tryd.prog) Tryd.underlying26 Tryd.underlying5 Tryd.underlying9 (Kd.own_of_R HO298.out);refine value_ (w1:=?_) (v:=?_) (by rfl) rfl ?_ ?_;rotate_left 2
          ·go_simp
           constructor
           ·rfl
           ·rfl
          clear hcv33;refine hK.out _ _ ((by have h_:=Kd.C_string (P:=Tryd.prog) (A:=(some ad292)) (c:=c0) Tryd.underlying26 Tryd.underlying5 Tryd.underlying9 (Kd.C_below HR299.out HB.out);rw [show (l0.take ((ji26) : Int).toNat).length = (ji26).toNat from (by rw [List.length_take];have h_ : ((ji26) : Int) ≤ (l0.length : Int):=of_decide_eq_true (by first | (with_reducible assumption) | assumption);omega)] at h_;exact h_)) (fun hHeld=>?_);clear hK K;refine nm (some 66) ?_;refine p_ HT_ 16 (some 73) (bl 18 131071) ?_;refine p_ HT_ 17 (some 74) (bl 18 262143) ?_;refine done_ (done_of HT_.out (by kernel_rfl)) ?_
          try go_wp2
          go_ret3
          exact ⟨by first | rfl | (simp [errW_none,errW_some] <;> rfl) | (simp only [← hji26];first | rfl | (simp [errW_none,errW_some] <;> rfl)) | (simp [*,errW_none,errW_some] <;> rfl),by exact bq HB.out⟩
end Go.Proofs.YtilckocpgififaaDoor.G
