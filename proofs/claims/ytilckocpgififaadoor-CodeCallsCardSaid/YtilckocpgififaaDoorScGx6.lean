import Derived.Test.YtilckocpgififaaDoorScHStep
import Derived.Test.YtilckocpgififaaDoorScGx3
import Derived.Test.YtilckocpgififaaDoorScHClone
import Derived.Test.YtilckocpgififaaDoorScHNumber
-- Laid by this session's own program gprint.py over the kit's print (given functions are proved by hand).
namespace Go.Proofs.YtilckocpgififaaDoor.G
open Go.RowKit Go.Proofs.YtilckocpgififaaDoorW.PrintWords Go.Proofs.YtilckocpgififaaDoorW.PrintLast Go.Proofs.YtilckocpgififaaDoorW.PrintMore
attribute [local go_sem] max2_int min2_int max_two min_two max_three min_three max_four min_four   -- for this text's walks alone
set_option linter.unusedVariables false
set_option linter.unusedSimpArgs false
/-! ### compact_Take: function 59 -/
mutual
def compact_Take.j0 : Nat → List Int → Int → Option (Int × Int × Bool)
 | 0,_,_=>none
 | k + 1,x0,x3=>if x3 > 9 then (compact_Take.j1 k x0 x3 true) else (compact_Take.j1 k x0 x3 (decide (x3 > (x0.length : Int))))
def compact_Take.j1 : Nat → List Int → Int → Bool → Option (Int × Int × Bool)
 | 0,_,_,_=>none
 | k + 1,x0,x3,x31=>if x31 = true then (some (0,0,false)) else (if 0 < (x0.length : Int) then (if (Int.tmod (rd x0 0) 4) = 3 then (if 1 ≤ x3 then (if x3 ≤ (x0.length : Int) then ((compact_number.f ((x0.take (x3 : Int).toNat).drop 1)).bind fun t268=>(if t268 < 0 then (some (0,0,false)) else (if t268 > 4611686018427387904 then (some (0,0,false)) else ((compact_Size.f k t268).bind fun t269=>(if t269 = x3 then (some (t268,x3,true)) else (some (0,0,false))))))) else (none)) else (none)) else (if 0 ≤ x3 then (if x3 ≤ (x0.length : Int) then ((compact_number.f (x0.take (x3 : Int).toNat)).bind fun t271=>(if (wrap64 (Int.tdiv t271 4)) < 0 then (some (0,0,false)) else (if (wrap64 (Int.tdiv t271 4)) > 4611686018427387904 then (some (0,0,false)) else ((compact_Size.f k (wrap64 (Int.tdiv t271 4))).bind fun t272=>(if t272 = x3 then (some (wrap64 (Int.tdiv t271 4),x3,true)) else (some (0,0,false))))))) else (none)) else (none))) else (none))
end
def compact_Take.f (k : Nat) (l0 : List Int) : Option (Int × Int × Bool):=if (l0.length : Int) = 0 then (some (0,0,false)) else (if 0 < (l0.length : Int) then (if (Int.tmod (rd l0 0) 4) = 0 then (compact_Take.j0 k l0 1) else (if (Int.tmod (rd l0 0) 4) = 1 then (compact_Take.j0 k l0 2) else (if (Int.tmod (rd l0 0) 4) = 2 then (compact_Take.j0 k l0 4) else (compact_Take.j0 k l0 (5 + ((Int.tdiv (rd l0 0) 4) % 256)))))) else (none))
set_option maxHeartbeats 8000000 in
set_option maxRecDepth 100000 in
theorem compact_Take.calls (k : Nat) (A0 : Option Addr) (c0 : Nat) (l0 : List Int) (r1 : Int) (r2 : Int) (r3 : Bool) (w : World) (hr0 : Kd.C (Kd.int .u8) w A0 l0.length l0) (hc0 : l0.length ≤ c0) (h : compact_Take.f k l0 = some (r1,r2,r3)) :
 Calls Tryd.prog 59 #[.slice A0 l0.length c0] w fun e w'=>e = .returned (.tuple #[.int .i64 r1,.int .i64 r2,.bool r3]) ∧ Below w.heap.size w w':=by
 have HR0:=am hr0;have HC0:=am hc0;clear hr0 hc0;have HB:=am (Below.refl w.heap.size w);have H : (if (l0.length : Int) = 0 then (some (0,0,false)) else (if 0 < (l0.length : Int) then (if (Int.tmod (rd l0 0) 4) = 0 then (compact_Take.j0 k l0 1) else (if (Int.tmod (rd l0 0) 4) = 1 then (compact_Take.j0 k l0 2) else (if (Int.tmod (rd l0 0) 4) = 2 then (compact_Take.j0 k l0 4) else (compact_Take.j0 k l0 (5 + ((Int.tdiv (rd l0 0) 4) % 256)))))) else (none))) = some (r1,r2,r3):=h;clear h
 by_cases c2 : (l0.length : Int) = 0
 ·rw [if_pos c2] at H;have c2b0 : ((l0.length : Int) == 0) = true:=beq_iff_eq.mpr c2;have c2b1 : ((l0.length : Int) != 0) = false:=bne_eq_false_iff_eq.mpr c2;clear c2;simp only [Option.some.injEq,Prod.mk.injEq] at H;obtain ⟨rfl,rfl,rfl⟩:=H;go_enter Tryd.func59,Tryd.ntmps59
  go_wp2
  go_ret3
  exact ⟨by first | rfl | (simp [errW_none,errW_some] <;> rfl) | (simp [*,errW_none,errW_some] <;> rfl),by exact bq HB.out⟩
 rw [if_neg c2] at H;have c2b0 : ((l0.length : Int) == 0) = false:=beq_eq_false_iff_ne.mpr c2;have c2b1 : ((l0.length : Int) != 0) = true:=bne_iff_ne.mpr c2;have c2b2 : ¬ (l0 = []):=fun h_=>c2 (by rw [h_];rfl)
 by_cases c3 : 0 < (l0.length : Int)
 rotate_left
 ·rw [if_neg c3] at H;exact absurd H (by simp)
 rw [if_pos c3] at H;have c3b0 : decide (0 < (l0.length : Int)) = true:=decide_eq_true c3;have c3b1 : decide (0 < l0.length) = true:=decide_eq_true (by omega);clear c3;have HC4:=am H;clear H;have p264 : 0 ≤ (0 : Int):=(by omega);have q264 : 0 < (l0.length : Int):=of_decide_eq_true (by first | (with_reducible assumption) | assumption);obtain ⟨ad264,e264,hx264_0⟩:=Kd.at_int HR0.out 0 p264 q264;cases e264;have qi264 : (0 < l0.length) = True:=eq_true (by omega)
 (try rw [show ((0 : Int)).toNat = 0 from rfl] at hx264_0)
 (try rw [Addr.add_zero'] at hx264_0)
 replace p264:=eq_true p264;replace q264:=eq_true q264;go_enter Tryd.func59,Tryd.ntmps59
 go_upto_block 0 with (fail)
 go_cut [3] (fun v3 wc=>∃ (kq : Nat) (x3_3 : Int),v3 = .int .i64 x3_3 ∧ Aside0 (compact_Take.j0 kq l0 x3_3 = some (r1,r2,r3)) ∧ Aside0 (kq ≤ k) ∧ Aside0 (Below w.heap.size w wc))
 case first=>
  have H:=HC4.out;clear HC4
  by_cases c5 : (Int.tmod (rd l0 0) 4) = 0
  ·rw [if_pos c5] at H;have c5b0 : ((Int.tmod (rd l0 0) 4) == 0) = true:=beq_iff_eq.mpr c5;have c5b1 : ((Int.tmod (rd l0 0) 4) != 0) = false:=bne_eq_false_iff_eq.mpr c5;clear c5
   (first | rw [c5b0] | (simp only [i64_w,i32_w];rw [c5b0]) | skip)
   have H':=am H;clear H
   go_wp2
   go_meet
   case rel=>exact ⟨_,(1),(by first | rfl | (simp;done) | (simp [*];done)),H',⟨by first | omega | exact Nat.le_refl _⟩,⟨by exact bq HB.out⟩⟩
  rw [if_neg c5] at H;have c5b0 : ((Int.tmod (rd l0 0) 4) == 0) = false:=beq_eq_false_iff_ne.mpr c5;have c5b1 : ((Int.tmod (rd l0 0) 4) != 0) = true:=bne_iff_ne.mpr c5
  (first | rw [c5b0] | (simp only [i64_w,i32_w];rw [c5b0]) | skip)
  by_cases c6 : (Int.tmod (rd l0 0) 4) = 1
  ·rw [if_pos c6] at H;have c6b0 : ((Int.tmod (rd l0 0) 4) == 1) = true:=beq_iff_eq.mpr c6;have c6b1 : ((Int.tmod (rd l0 0) 4) != 1) = false:=bne_eq_false_iff_eq.mpr c6;clear c6;have H':=am H;clear H
   go_wp2
   go_meet
   case rel=>exact ⟨_,(2),(by first | rfl | (simp;done) | (simp [*];done)),H',⟨by first | omega | exact Nat.le_refl _⟩,⟨by exact bq HB.out⟩⟩
  rw [if_neg c6] at H;have c6b0 : ((Int.tmod (rd l0 0) 4) == 1) = false:=beq_eq_false_iff_ne.mpr c6;have c6b1 : ((Int.tmod (rd l0 0) 4) != 1) = true:=bne_iff_ne.mpr c6
  by_cases c7 : (Int.tmod (rd l0 0) 4) = 2
  ·rw [if_pos c7] at H;have c7b0 : ((Int.tmod (rd l0 0) 4) == 2) = true:=beq_iff_eq.mpr c7;have c7b1 : ((Int.tmod (rd l0 0) 4) != 2) = false:=bne_eq_false_iff_eq.mpr c7;clear c7;have H':=am H;clear H
   go_wp2
   go_meet
   case rel=>exact ⟨_,(4),(by first | rfl | (simp;done) | (simp [*];done)),H',⟨by first | omega | exact Nat.le_refl _⟩,⟨by exact bq HB.out⟩⟩
  rw [if_neg c7] at H;have c7b0 : ((Int.tmod (rd l0 0) 4) == 2) = false:=beq_eq_false_iff_ne.mpr c7;have c7b1 : ((Int.tmod (rd l0 0) 4) != 2) = true:=bne_iff_ne.mpr c7;have H':=am H;clear H;have p265 : 0 ≤ (0 : Int):=(by omega);have q265 : 0 < (l0.length : Int):=of_decide_eq_true (by first | (with_reducible assumption) | assumption);obtain ⟨ad265,e265,hx265_0⟩:=Kd.at_int HR0.out 0 p265 q265;obtain rfl : ad264 = ad265:=(by injection e265);have qi265 : (0 < l0.length) = True:=eq_true (by omega)
  (try rw [show ((0 : Int)).toNat = 0 from rfl] at hx265_0)
  (try rw [Addr.add_zero'] at hx265_0)
  replace hx265_0:=(HB.out.cell (World.block_lt_of_cell? w _ hx265_0)).trans hx265_0;replace p265:=eq_true p265;replace q265:=eq_true q265
  go_wp2
  go_meet
  case rel=>exact ⟨_,(5 + ((Int.tdiv (rd l0 0) 4) % 256)),(by first | rfl | (simp;done) | (simp [*];done)),H',⟨by first | omega | exact Nat.le_refl _⟩,⟨by exact bq HB.out⟩⟩
 case rest=>
  clear HC4
  try clear c2
  try clear c2b0
  try clear c2b1
  try clear c2b2
  try clear p2
  try clear q2
  try clear hx2
  try clear qi2
  try clear c3
  try clear c3b0
  try clear c3b1
  try clear c5
  try clear c5b0
  try clear c5b1
  try clear c6
  try clear c6b0
  try clear c6b1
  try clear c7
  try clear c7b0
  try clear c7b1
  try clear hx264_0
  try clear hx265_0
  try clear p264
  try clear p265
  try clear q264
  try clear q265
  obtain ⟨kq,x3_3,rfl,HA,HJ3,HB⟩:=hcut
  cases kq with
  | zero=>exact absurd HA.out (by simp [compact_Take.j0])
  | succ kj3=>
    have H:=HA.out;clear HA;simp only [compact_Take.j0] at H;have HC8:=am H;clear H
    go_upto_region 11 with (fail)
    go_cut [31] (fun v31 wc=>∃ (kq : Nat) (x31_7 : Bool),v31 = .bool x31_7 ∧ Aside0 (compact_Take.j1 kq l0 x3_3 x31_7 = some (r1,r2,r3)) ∧ Aside0 (kq ≤ kj3) ∧ Aside0 (Below w.heap.size w wc))
    case first=>
     have H:=HC8.out;clear HC8
     by_cases c9 : x3_3 > 9
     ·rw [if_pos c9] at H;have c9b0 : decide (9 < x3_3) = true:=decide_eq_true c9;clear c9
      (first | rw [c9b0] | (simp only [i64_w,i32_w];rw [c9b0]) | skip)
      have H':=am H;clear H
      go_wp2
      go_meet
      case rel=>exact ⟨_,(true),(by first | rfl | (simp;done) | (simp [*];done)),H',⟨by have:=HJ3.out;first | omega | exact Nat.le_refl _⟩,⟨by exact bq HB.out⟩⟩
     rw [if_neg c9] at H;have c9b0 : decide (9 < x3_3) = false:=decide_eq_false c9;clear c9
     (first | rw [c9b0] | (simp only [i64_w,i32_w];rw [c9b0]) | skip)
     have H':=am H;clear H
     go_wp2
     go_meet
     case rel=>exact ⟨_,(decide (x3_3 > (l0.length : Int))),(by first | rfl | (simp;done) | (simp [*];done)),H',⟨by have:=HJ3.out;first | omega | exact Nat.le_refl _⟩,⟨by exact bq HB.out⟩⟩
    case rest=>
     clear HC8
     try clear c2
     try clear c2b0
     try clear c2b1
     try clear c2b2
     try clear p2
     try clear q2
     try clear hx2
     try clear qi2
     try clear c3
     try clear c3b0
     try clear c3b1
     try clear c5
     try clear c5b0
     try clear c5b1
     try clear c6
     try clear c6b0
     try clear c6b1
     try clear c7
     try clear c7b0
     try clear c7b1
     try clear c9
     try clear c9b0
     try clear hx264_0
     try clear hx265_0
     try clear p2
     try clear p264
     try clear p265
     try clear q2
     try clear q264
     try clear q265
     obtain ⟨kq,x31_7,rfl,HA,HJ7,HB⟩:=hcut
     cases kq with
     | zero=>exact absurd HA.out (by simp [compact_Take.j1])
     | succ kj7=>
       have H:=HA.out;clear HA;simp only [compact_Take.j1] at H
       by_cases c10 : x31_7 = true
       ·subst c10
        have H1 : (some (0,0,false)) = some (r1,r2,r3):=by rw [if_pos rfl] at H;exact H
        clear H;have H:=H1;clear H1;simp only [Option.some.injEq,Prod.mk.injEq] at H;obtain ⟨rfl,rfl,rfl⟩:=H
        go_wp2
        go_ret3
        exact ⟨by first | rfl | (simp [errW_none,errW_some] <;> rfl) | (simp [*,errW_none,errW_some] <;> rfl),by exact bq HB.out⟩
       replace c10:=Bool.eq_false_iff.mpr c10;subst c10
       have H1 : (if 0 < (l0.length : Int) then (if (Int.tmod (rd l0 0) 4) = 3 then (if 1 ≤ x3_3 then (if x3_3 ≤ (l0.length : Int) then ((compact_number.f ((l0.take (x3_3 : Int).toNat).drop 1)).bind fun t268=>(if t268 < 0 then (some (0,0,false)) else (if t268 > 4611686018427387904 then (some (0,0,false)) else ((compact_Size.f kj7 t268).bind fun t269=>(if t269 = x3_3 then (some (t268,x3_3,true)) else (some (0,0,false))))))) else (none)) else (none)) else (if 0 ≤ x3_3 then (if x3_3 ≤ (l0.length : Int) then ((compact_number.f (l0.take (x3_3 : Int).toNat)).bind fun t271=>(if (wrap64 (Int.tdiv t271 4)) < 0 then (some (0,0,false)) else (if (wrap64 (Int.tdiv t271 4)) > 4611686018427387904 then (some (0,0,false)) else ((compact_Size.f kj7 (wrap64 (Int.tdiv t271 4))).bind fun t272=>(if t272 = x3_3 then (some (wrap64 (Int.tdiv t271 4),x3_3,true)) else (some (0,0,false))))))) else (none)) else (none))) else (none)) = some (r1,r2,r3):=by rw [if_neg (show ¬ (false = true) by decide)] at H;exact H
       clear H;have H:=H1;clear H1
       by_cases c11 : 0 < (l0.length : Int)
       rotate_left
       ·rw [if_neg c11] at H;exact absurd H (by simp)
       rw [if_pos c11] at H;have c11b0 : decide (0 < (l0.length : Int)) = true:=decide_eq_true c11;have c11b1 : decide (0 < l0.length) = true:=decide_eq_true (by omega);clear c11
       by_cases c12 : (Int.tmod (rd l0 0) 4) = 3
       rotate_left
       ·rw [if_neg c12] at H;have c12b0 : ((Int.tmod (rd l0 0) 4) == 3) = false:=beq_eq_false_iff_ne.mpr c12;have c12b1 : ((Int.tmod (rd l0 0) 4) != 3) = true:=bne_iff_ne.mpr c12
        by_cases c30 : 0 ≤ x3_3
        rotate_left
        ·rw [if_neg c30] at H;exact absurd H (by simp)
        rw [if_pos c30] at H;have c30b0:=eq_true c30;have c30b1 : decide (0 ≤ x3_3) = true:=decide_eq_true c30;clear c30
        by_cases c31 : x3_3 ≤ (l0.length : Int)
        rotate_left
        ·rw [if_neg c31] at H;exact absurd H (by simp)
        rw [if_pos c31] at H;have c31b0:=eq_true c31;have c31b1 : decide (x3_3 ≤ (l0.length : Int)) = true:=decide_eq_true c31;clear c31;replace H:=Option.bind_eq_some_iff.mp H;obtain ⟨t271,A320,H⟩:=H;replace H : (if (wrap64 (Int.tdiv t271 4)) < 0 then (some (0,0,false)) else (if (wrap64 (Int.tdiv t271 4)) > 4611686018427387904 then (some (0,0,false)) else ((compact_Size.f kj7 (wrap64 (Int.tdiv t271 4))).bind fun t272=>(if t272 = x3_3 then (some (wrap64 (Int.tdiv t271 4),x3_3,true)) else (some (0,0,false)))))) = some (r1,r2,r3):=H;have A32:=am A320;clear A320
        by_cases c33 : (wrap64 (Int.tdiv t271 4)) < 0
        ·rw [if_pos c33] at H;have c33b0 : decide ((wrap64 (Int.tdiv t271 4)) < 0) = true:=decide_eq_true c33;clear c33;simp only [Option.some.injEq,Prod.mk.injEq] at H;obtain ⟨rfl,rfl,rfl⟩:=H;have p266 : 0 ≤ (0 : Int):=(by omega);have q266 : 0 < (l0.length : Int):=of_decide_eq_true (by first | (with_reducible assumption) | assumption);obtain ⟨ad266,e266,hx266_0⟩:=Kd.at_int HR0.out 0 p266 q266;obtain rfl : ad264 = ad266:=(by injection e266);have qi266 : (0 < l0.length) = True:=eq_true (by omega)
         (try rw [show ((0 : Int)).toNat = 0 from rfl] at hx266_0)
         (try rw [Addr.add_zero'] at hx266_0)
         replace hx266_0:=(HB.out.cell (World.block_lt_of_cell? w _ hx266_0)).trans hx266_0;replace p266:=eq_true p266;replace q266:=eq_true q266;obtain ⟨i034,hi034,_,hsz34,_⟩:=info_parts info5;obtain ⟨hcut34,hA34,hC34⟩:=print_take_of (P:=Tryd.prog) (Value.int .u8) 0 26 5 .i64 Tryd.underlying26 hi034 hsz34 (some ad264) c0 l0 x3_3 (of_decide_eq_true (by first | (with_reducible assumption) | assumption)) (of_decide_eq_true (by first | (with_reducible assumption) | assumption)) HC0.out;have HR270:=am (Kd.C_of_reads (h1:=fun _=>rfl) (hA34 _ (Kd.reads_of_C HR0.out)));have HC270:=am hC34;clear hA34 hC34 hi034 hsz34
         go_wp2_with (first | ((with_reducible refine gate_callee (f:=73) rfl ?_);refine goesL_ (some 44) rfl rfl Tryd.func73 (by kernel_rfl) rfl #[.slice (some ad264) (l0.take (x3_3 : Int).toNat).length c0] rfl (by (try simp only [List.map_toArray,List.map_cons,List.map_nil]);first | done | (rw [show (l0.take (x3_3 : Int).toNat).length = x3_3.toNat from (by rw [List.length_take];have h_ : (x3_3 : Int) ≤ (l0.length : Int):=of_decide_eq_true (by first | (with_reducible assumption) | assumption);omega)] <;> rfl) | rfl | (simp only [List.length_drop,List.length_take];rfl)) ?_;(with_reducible refine (compact_number.calls _ _ (l0.take (x3_3 : Int).toNat) t271 _ ?side1 ?side2 A32.out).mono ?_);(case side1=>repeat (first | exact (Kd.C_below HR270.out HB.out) | (with_reducible refine Kd.C_alloc ?_ _) | (with_reducible refine Kd.C_drewN ?_ _) | (with_reducible refine Kd.C_drew ?_)));(case side2=>exact HC270.out);rintro e w35 ⟨rfl,hb⟩;refine ⟨_,rfl,?_⟩;have n0_:=am (below_step (by exact bq HB.out) hb);clear HB;have HB:=n0_;clear n0_;(try clear hb);(try clear hb2);(try clear hk);(try clear hi)))
         go_ret3
         exact ⟨by first | rfl | (simp [errW_none,errW_some] <;> rfl) | (simp [*,errW_none,errW_some] <;> rfl),by exact bq HB.out⟩
        rw [if_neg c33] at H;have c33b0 : decide ((wrap64 (Int.tdiv t271 4)) < 0) = false:=decide_eq_false c33;clear c33
        by_cases c36 : (wrap64 (Int.tdiv t271 4)) > 4611686018427387904
        ·rw [if_pos c36] at H;have c36b0 : decide (4611686018427387904 < (wrap64 (Int.tdiv t271 4))) = true:=decide_eq_true c36;clear c36;simp only [Option.some.injEq,Prod.mk.injEq] at H;obtain ⟨rfl,rfl,rfl⟩:=H;have p266 : 0 ≤ (0 : Int):=(by omega);have q266 : 0 < (l0.length : Int):=of_decide_eq_true (by first | (with_reducible assumption) | assumption);obtain ⟨ad266,e266,hx266_0⟩:=Kd.at_int HR0.out 0 p266 q266;obtain rfl : ad264 = ad266:=(by injection e266);have qi266 : (0 < l0.length) = True:=eq_true (by omega)
         (try rw [show ((0 : Int)).toNat = 0 from rfl] at hx266_0)
         (try rw [Addr.add_zero'] at hx266_0)
         replace hx266_0:=(HB.out.cell (World.block_lt_of_cell? w _ hx266_0)).trans hx266_0;replace p266:=eq_true p266;replace q266:=eq_true q266;obtain ⟨i037,hi037,_,hsz37,_⟩:=info_parts info5;obtain ⟨hcut37,hA37,hC37⟩:=print_take_of (P:=Tryd.prog) (Value.int .u8) 0 26 5 .i64 Tryd.underlying26 hi037 hsz37 (some ad264) c0 l0 x3_3 (of_decide_eq_true (by first | (with_reducible assumption) | assumption)) (of_decide_eq_true (by first | (with_reducible assumption) | assumption)) HC0.out;have HR270:=am (Kd.C_of_reads (h1:=fun _=>rfl) (hA37 _ (Kd.reads_of_C HR0.out)));have HC270:=am hC37;clear hA37 hC37 hi037 hsz37
         go_wp2_with (first | ((with_reducible refine gate_callee (f:=73) rfl ?_);refine goesL_ (some 44) rfl rfl Tryd.func73 (by kernel_rfl) rfl #[.slice (some ad264) (l0.take (x3_3 : Int).toNat).length c0] rfl (by (try simp only [List.map_toArray,List.map_cons,List.map_nil]);first | done | (rw [show (l0.take (x3_3 : Int).toNat).length = x3_3.toNat from (by rw [List.length_take];have h_ : (x3_3 : Int) ≤ (l0.length : Int):=of_decide_eq_true (by first | (with_reducible assumption) | assumption);omega)] <;> rfl) | rfl | (simp only [List.length_drop,List.length_take];rfl)) ?_;(with_reducible refine (compact_number.calls _ _ (l0.take (x3_3 : Int).toNat) t271 _ ?side1 ?side2 A32.out).mono ?_);(case side1=>repeat (first | exact (Kd.C_below HR270.out HB.out) | (with_reducible refine Kd.C_alloc ?_ _) | (with_reducible refine Kd.C_drewN ?_ _) | (with_reducible refine Kd.C_drew ?_)));(case side2=>exact HC270.out);rintro e w38 ⟨rfl,hb⟩;refine ⟨_,rfl,?_⟩;have n0_:=am (below_step (by exact bq HB.out) hb);clear HB;have HB:=n0_;clear n0_;(try clear hb);(try clear hb2);(try clear hk);(try clear hi)))
         go_ret3
         exact ⟨by first | rfl | (simp [errW_none,errW_some] <;> rfl) | (simp [*,errW_none,errW_some] <;> rfl),by exact bq HB.out⟩
        rw [if_neg c36] at H;have c36b0 : decide (4611686018427387904 < (wrap64 (Int.tdiv t271 4))) = false:=decide_eq_false c36;clear c36;replace H:=Option.bind_eq_some_iff.mp H;obtain ⟨t272,A390,H⟩:=H;replace H : (if t272 = x3_3 then (some (wrap64 (Int.tdiv t271 4),x3_3,true)) else (some (0,0,false))) = some (r1,r2,r3):=H;have A39:=am A390;clear A390
        by_cases c40 : t272 = x3_3
        rotate_left
        ·rw [if_neg c40] at H;have c40b0 : (t272 == x3_3) = false:=beq_eq_false_iff_ne.mpr c40;have c40b1 : (t272 != x3_3) = true:=bne_iff_ne.mpr c40;simp only [Option.some.injEq,Prod.mk.injEq] at H;obtain ⟨rfl,rfl,rfl⟩:=H;have p266 : 0 ≤ (0 : Int):=(by omega);have q266 : 0 < (l0.length : Int):=of_decide_eq_true (by first | (with_reducible assumption) | assumption);obtain ⟨ad266,e266,hx266_0⟩:=Kd.at_int HR0.out 0 p266 q266;obtain rfl : ad264 = ad266:=(by injection e266);have qi266 : (0 < l0.length) = True:=eq_true (by omega)
         (try rw [show ((0 : Int)).toNat = 0 from rfl] at hx266_0)
         (try rw [Addr.add_zero'] at hx266_0)
         replace hx266_0:=(HB.out.cell (World.block_lt_of_cell? w _ hx266_0)).trans hx266_0;replace p266:=eq_true p266;replace q266:=eq_true q266;obtain ⟨i044,hi044,_,hsz44,_⟩:=info_parts info5;obtain ⟨hcut44,hA44,hC44⟩:=print_take_of (P:=Tryd.prog) (Value.int .u8) 0 26 5 .i64 Tryd.underlying26 hi044 hsz44 (some ad264) c0 l0 x3_3 (of_decide_eq_true (by first | (with_reducible assumption) | assumption)) (of_decide_eq_true (by first | (with_reducible assumption) | assumption)) HC0.out;have HR270:=am (Kd.C_of_reads (h1:=fun _=>rfl) (hA44 _ (Kd.reads_of_C HR0.out)));have HC270:=am hC44;clear hA44 hC44 hi044 hsz44
         go_wp2_with (first | ((with_reducible refine gate_callee (f:=73) rfl ?_);refine goesL_ (some 44) rfl rfl Tryd.func73 (by kernel_rfl) rfl #[.slice (some ad264) (l0.take (x3_3 : Int).toNat).length c0] rfl (by (try simp only [List.map_toArray,List.map_cons,List.map_nil]);first | done | (rw [show (l0.take (x3_3 : Int).toNat).length = x3_3.toNat from (by rw [List.length_take];have h_ : (x3_3 : Int) ≤ (l0.length : Int):=of_decide_eq_true (by first | (with_reducible assumption) | assumption);omega)] <;> rfl) | rfl | (simp only [List.length_drop,List.length_take];rfl)) ?_;(with_reducible refine (compact_number.calls _ _ (l0.take (x3_3 : Int).toNat) t271 _ ?side1 ?side2 A32.out).mono ?_);(case side1=>repeat (first | exact (Kd.C_below HR270.out HB.out) | (with_reducible refine Kd.C_alloc ?_ _) | (with_reducible refine Kd.C_drewN ?_ _) | (with_reducible refine Kd.C_drew ?_)));(case side2=>exact HC270.out);rintro e w45 ⟨rfl,hb⟩;refine ⟨_,rfl,?_⟩;have n0_:=am (below_step (by exact bq HB.out) hb);clear HB;have HB:=n0_;clear n0_;(try clear hb);(try clear hb2);(try clear hk);(try clear hi)) | (go_at_call 65;(with_reducible refine (compact_Size.calls kj7 (wrap64 (Int.tdiv t271 4)) t272 _ A39.out).mono ?_);rintro e w46 ⟨rfl,hb⟩;have n0_:=am (below_step (by exact bq HB.out) hb);clear HB;have HB:=n0_;clear n0_;(try clear hb);(try clear hb2);(try clear hk);(try clear hi)))
         go_ret3
         exact ⟨by first | rfl | (simp [errW_none,errW_some] <;> rfl) | (simp [*,errW_none,errW_some] <;> rfl),by exact bq HB.out⟩
        rw [if_pos c40] at H;have c40b0 : (t272 == x3_3) = true:=beq_iff_eq.mpr c40;have c40b1 : (t272 != x3_3) = false:=bne_eq_false_iff_eq.mpr c40;clear c40;simp only [Option.some.injEq,Prod.mk.injEq] at H;obtain ⟨rfl,rfl,rfl⟩:=H;have p266 : 0 ≤ (0 : Int):=(by omega);have q266 : 0 < (l0.length : Int):=of_decide_eq_true (by first | (with_reducible assumption) | assumption);obtain ⟨ad266,e266,hx266_0⟩:=Kd.at_int HR0.out 0 p266 q266;obtain rfl : ad264 = ad266:=(by injection e266);have qi266 : (0 < l0.length) = True:=eq_true (by omega)
        (try rw [show ((0 : Int)).toNat = 0 from rfl] at hx266_0)
        (try rw [Addr.add_zero'] at hx266_0)
        replace hx266_0:=(HB.out.cell (World.block_lt_of_cell? w _ hx266_0)).trans hx266_0;replace p266:=eq_true p266;replace q266:=eq_true q266;obtain ⟨i041,hi041,_,hsz41,_⟩:=info_parts info5;obtain ⟨hcut41,hA41,hC41⟩:=print_take_of (P:=Tryd.prog) (Value.int .u8) 0 26 5 .i64 Tryd.underlying26 hi041 hsz41 (some ad264) c0 l0 x3_3 (of_decide_eq_true (by first | (with_reducible assumption) | assumption)) (of_decide_eq_true (by first | (with_reducible assumption) | assumption)) HC0.out;have HR270:=am (Kd.C_of_reads (h1:=fun _=>rfl) (hA41 _ (Kd.reads_of_C HR0.out)));have HC270:=am hC41;clear hA41 hC41 hi041 hsz41
        go_wp2_with (first | ((with_reducible refine gate_callee (f:=73) rfl ?_);refine goesL_ (some 44) rfl rfl Tryd.func73 (by kernel_rfl) rfl #[.slice (some ad264) (l0.take (x3_3 : Int).toNat).length c0] rfl (by (try simp only [List.map_toArray,List.map_cons,List.map_nil]);first | done | (rw [show (l0.take (x3_3 : Int).toNat).length = x3_3.toNat from (by rw [List.length_take];have h_ : (x3_3 : Int) ≤ (l0.length : Int):=of_decide_eq_true (by first | (with_reducible assumption) | assumption);omega)] <;> rfl) | rfl | (simp only [List.length_drop,List.length_take];rfl)) ?_;(with_reducible refine (compact_number.calls _ _ (l0.take (x3_3 : Int).toNat) t271 _ ?side1 ?side2 A32.out).mono ?_);(case side1=>repeat (first | exact (Kd.C_below HR270.out HB.out) | (with_reducible refine Kd.C_alloc ?_ _) | (with_reducible refine Kd.C_drewN ?_ _) | (with_reducible refine Kd.C_drew ?_)));(case side2=>exact HC270.out);rintro e w42 ⟨rfl,hb⟩;refine ⟨_,rfl,?_⟩;have n0_:=am (below_step (by exact bq HB.out) hb);clear HB;have HB:=n0_;clear n0_;(try clear hb);(try clear hb2);(try clear hk);(try clear hi)) | (go_at_call 65;(with_reducible refine (compact_Size.calls kj7 (wrap64 (Int.tdiv t271 4)) t272 _ A39.out).mono ?_);rintro e w43 ⟨rfl,hb⟩;have n0_:=am (below_step (by exact bq HB.out) hb);clear HB;have HB:=n0_;clear n0_;(try clear hb);(try clear hb2);(try clear hk);(try clear hi)))
        go_ret3
        exact ⟨by first | rfl | (simp [errW_none,errW_some] <;> rfl) | (simp [*,errW_none,errW_some] <;> rfl),by exact bq HB.out⟩
       rw [if_pos c12] at H;have c12b0 : ((Int.tmod (rd l0 0) 4) == 3) = true:=beq_iff_eq.mpr c12;have c12b1 : ((Int.tmod (rd l0 0) 4) != 3) = false:=bne_eq_false_iff_eq.mpr c12;clear c12
       by_cases c13 : 1 ≤ x3_3
       rotate_left
       ·rw [if_neg c13] at H;exact absurd H (by simp)
       rw [if_pos c13] at H;have c13b0:=eq_true c13;have c13b1 : decide (1 ≤ x3_3) = true:=decide_eq_true c13;clear c13
       by_cases c14 : x3_3 ≤ (l0.length : Int)
       rotate_left
       ·rw [if_neg c14] at H;exact absurd H (by simp)
       rw [if_pos c14] at H;have c14b0:=eq_true c14;have c14b1 : decide (x3_3 ≤ (l0.length : Int)) = true:=decide_eq_true c14;clear c14;replace H:=Option.bind_eq_some_iff.mp H;obtain ⟨t268,A150,H⟩:=H;replace H : (if t268 < 0 then (some (0,0,false)) else (if t268 > 4611686018427387904 then (some (0,0,false)) else ((compact_Size.f kj7 t268).bind fun t269=>(if t269 = x3_3 then (some (t268,x3_3,true)) else (some (0,0,false)))))) = some (r1,r2,r3):=H;have A15:=am A150;clear A150
       by_cases c16 : t268 < 0
       ·rw [if_pos c16] at H;have c16b0 : decide (t268 < 0) = true:=decide_eq_true c16;clear c16;simp only [Option.some.injEq,Prod.mk.injEq] at H;obtain ⟨rfl,rfl,rfl⟩:=H;have p266 : 0 ≤ (0 : Int):=(by omega);have q266 : 0 < (l0.length : Int):=of_decide_eq_true (by first | (with_reducible assumption) | assumption);obtain ⟨ad266,e266,hx266_0⟩:=Kd.at_int HR0.out 0 p266 q266;obtain rfl : ad264 = ad266:=(by injection e266);have qi266 : (0 < l0.length) = True:=eq_true (by omega)
        (try rw [show ((0 : Int)).toNat = 0 from rfl] at hx266_0)
        (try rw [Addr.add_zero'] at hx266_0)
        replace hx266_0:=(HB.out.cell (World.block_lt_of_cell? w _ hx266_0)).trans hx266_0;replace p266:=eq_true p266;replace q266:=eq_true q266;obtain ⟨i017,hi017,_,hsz17,_⟩:=info_parts info5;obtain ⟨A17,hcut17,hA17,hC17⟩:=print_mid_of (P:=Tryd.prog) (Value.int .u8) 0 26 5 .i64 .i64 Tryd.underlying26 hi017 hsz17 (some ad264) c0 l0 1 x3_3 (by omega) (by first | omega | exact of_decide_eq_true (by first | (with_reducible assumption) | assumption)) (of_decide_eq_true (by first | (with_reducible assumption) | assumption)) HC0.out;have HR267:=am (Kd.C_of_reads (h1:=fun _=>rfl) (hA17 _ (Kd.reads_of_C HR0.out)));have HC267:=am hC17;clear hA17 hC17 hi017 hsz17
        go_wp2_with (first | ((with_reducible refine gate_callee (f:=73) rfl ?_);refine goesL_ (some 40) rfl rfl Tryd.func73 (by kernel_rfl) rfl #[.slice A17 ((l0.take (x3_3 : Int).toNat).drop 1).length (c0 - 1)] rfl (by (try simp only [List.map_toArray,List.map_cons,List.map_nil]);first | done | (rw [show ((l0.take (x3_3 : Int).toNat).drop 1).length = (x3_3.toNat - 1) from (by rw [List.length_drop,List.length_take];have h_ : (x3_3 : Int) ≤ (l0.length : Int):=of_decide_eq_true (by first | (with_reducible assumption) | assumption);omega)] <;> rfl) | rfl | (simp only [List.length_drop,List.length_take];rfl)) ?_;(with_reducible refine (compact_number.calls _ _ ((l0.take (x3_3 : Int).toNat).drop 1) t268 _ ?side1 ?side2 A15.out).mono ?_);(case side1=>repeat (first | exact (Kd.C_below HR267.out HB.out) | (with_reducible refine Kd.C_alloc ?_ _) | (with_reducible refine Kd.C_drewN ?_ _) | (with_reducible refine Kd.C_drew ?_)));(case side2=>exact HC267.out);rintro e w18 ⟨rfl,hb⟩;refine ⟨_,rfl,?_⟩;have n0_:=am (below_step (by exact bq HB.out) hb);clear HB;have HB:=n0_;clear n0_;(try clear hb);(try clear hb2);(try clear hk);(try clear hi)))
        go_ret3
        exact ⟨by first | rfl | (simp [errW_none,errW_some] <;> rfl) | (simp [*,errW_none,errW_some] <;> rfl),by exact bq HB.out⟩
       rw [if_neg c16] at H;have c16b0 : decide (t268 < 0) = false:=decide_eq_false c16;clear c16
       by_cases c19 : t268 > 4611686018427387904
       ·rw [if_pos c19] at H;have c19b0 : decide (4611686018427387904 < t268) = true:=decide_eq_true c19;clear c19;simp only [Option.some.injEq,Prod.mk.injEq] at H;obtain ⟨rfl,rfl,rfl⟩:=H;have p266 : 0 ≤ (0 : Int):=(by omega);have q266 : 0 < (l0.length : Int):=of_decide_eq_true (by first | (with_reducible assumption) | assumption);obtain ⟨ad266,e266,hx266_0⟩:=Kd.at_int HR0.out 0 p266 q266;obtain rfl : ad264 = ad266:=(by injection e266);have qi266 : (0 < l0.length) = True:=eq_true (by omega)
        (try rw [show ((0 : Int)).toNat = 0 from rfl] at hx266_0)
        (try rw [Addr.add_zero'] at hx266_0)
        replace hx266_0:=(HB.out.cell (World.block_lt_of_cell? w _ hx266_0)).trans hx266_0;replace p266:=eq_true p266;replace q266:=eq_true q266;obtain ⟨i020,hi020,_,hsz20,_⟩:=info_parts info5;obtain ⟨A20,hcut20,hA20,hC20⟩:=print_mid_of (P:=Tryd.prog) (Value.int .u8) 0 26 5 .i64 .i64 Tryd.underlying26 hi020 hsz20 (some ad264) c0 l0 1 x3_3 (by omega) (by first | omega | exact of_decide_eq_true (by first | (with_reducible assumption) | assumption)) (of_decide_eq_true (by first | (with_reducible assumption) | assumption)) HC0.out;have HR267:=am (Kd.C_of_reads (h1:=fun _=>rfl) (hA20 _ (Kd.reads_of_C HR0.out)));have HC267:=am hC20;clear hA20 hC20 hi020 hsz20
        go_wp2_with (first | ((with_reducible refine gate_callee (f:=73) rfl ?_);refine goesL_ (some 40) rfl rfl Tryd.func73 (by kernel_rfl) rfl #[.slice A20 ((l0.take (x3_3 : Int).toNat).drop 1).length (c0 - 1)] rfl (by (try simp only [List.map_toArray,List.map_cons,List.map_nil]);first | done | (rw [show ((l0.take (x3_3 : Int).toNat).drop 1).length = (x3_3.toNat - 1) from (by rw [List.length_drop,List.length_take];have h_ : (x3_3 : Int) ≤ (l0.length : Int):=of_decide_eq_true (by first | (with_reducible assumption) | assumption);omega)] <;> rfl) | rfl | (simp only [List.length_drop,List.length_take];rfl)) ?_;(with_reducible refine (compact_number.calls _ _ ((l0.take (x3_3 : Int).toNat).drop 1) t268 _ ?side1 ?side2 A15.out).mono ?_);(case side1=>repeat (first | exact (Kd.C_below HR267.out HB.out) | (with_reducible refine Kd.C_alloc ?_ _) | (with_reducible refine Kd.C_drewN ?_ _) | (with_reducible refine Kd.C_drew ?_)));(case side2=>exact HC267.out);rintro e w21 ⟨rfl,hb⟩;refine ⟨_,rfl,?_⟩;have n0_:=am (below_step (by exact bq HB.out) hb);clear HB;have HB:=n0_;clear n0_;(try clear hb);(try clear hb2);(try clear hk);(try clear hi)))
        go_ret3
        exact ⟨by first | rfl | (simp [errW_none,errW_some] <;> rfl) | (simp [*,errW_none,errW_some] <;> rfl),by exact bq HB.out⟩
       rw [if_neg c19] at H;have c19b0 : decide (4611686018427387904 < t268) = false:=decide_eq_false c19;clear c19;replace H:=Option.bind_eq_some_iff.mp H;obtain ⟨t269,A220,H⟩:=H;replace H : (if t269 = x3_3 then (some (t268,x3_3,true)) else (some (0,0,false))) = some (r1,r2,r3):=H;have A22:=am A220;clear A220
       by_cases c23 : t269 = x3_3
       rotate_left
       ·rw [if_neg c23] at H;have c23b0 : (t269 == x3_3) = false:=beq_eq_false_iff_ne.mpr c23;have c23b1 : (t269 != x3_3) = true:=bne_iff_ne.mpr c23;simp only [Option.some.injEq,Prod.mk.injEq] at H;obtain ⟨rfl,rfl,rfl⟩:=H;have p266 : 0 ≤ (0 : Int):=(by omega);have q266 : 0 < (l0.length : Int):=of_decide_eq_true (by first | (with_reducible assumption) | assumption);obtain ⟨ad266,e266,hx266_0⟩:=Kd.at_int HR0.out 0 p266 q266;obtain rfl : ad264 = ad266:=(by injection e266);have qi266 : (0 < l0.length) = True:=eq_true (by omega)
        (try rw [show ((0 : Int)).toNat = 0 from rfl] at hx266_0)
        (try rw [Addr.add_zero'] at hx266_0)
        replace hx266_0:=(HB.out.cell (World.block_lt_of_cell? w _ hx266_0)).trans hx266_0;replace p266:=eq_true p266;replace q266:=eq_true q266;obtain ⟨i027,hi027,_,hsz27,_⟩:=info_parts info5;obtain ⟨A27,hcut27,hA27,hC27⟩:=print_mid_of (P:=Tryd.prog) (Value.int .u8) 0 26 5 .i64 .i64 Tryd.underlying26 hi027 hsz27 (some ad264) c0 l0 1 x3_3 (by omega) (by first | omega | exact of_decide_eq_true (by first | (with_reducible assumption) | assumption)) (of_decide_eq_true (by first | (with_reducible assumption) | assumption)) HC0.out;have HR267:=am (Kd.C_of_reads (h1:=fun _=>rfl) (hA27 _ (Kd.reads_of_C HR0.out)));have HC267:=am hC27;clear hA27 hC27 hi027 hsz27
        go_wp2_with (first | ((with_reducible refine gate_callee (f:=73) rfl ?_);refine goesL_ (some 40) rfl rfl Tryd.func73 (by kernel_rfl) rfl #[.slice A27 ((l0.take (x3_3 : Int).toNat).drop 1).length (c0 - 1)] rfl (by (try simp only [List.map_toArray,List.map_cons,List.map_nil]);first | done | (rw [show ((l0.take (x3_3 : Int).toNat).drop 1).length = (x3_3.toNat - 1) from (by rw [List.length_drop,List.length_take];have h_ : (x3_3 : Int) ≤ (l0.length : Int):=of_decide_eq_true (by first | (with_reducible assumption) | assumption);omega)] <;> rfl) | rfl | (simp only [List.length_drop,List.length_take];rfl)) ?_;(with_reducible refine (compact_number.calls _ _ ((l0.take (x3_3 : Int).toNat).drop 1) t268 _ ?side1 ?side2 A15.out).mono ?_);(case side1=>repeat (first | exact (Kd.C_below HR267.out HB.out) | (with_reducible refine Kd.C_alloc ?_ _) | (with_reducible refine Kd.C_drewN ?_ _) | (with_reducible refine Kd.C_drew ?_)));(case side2=>exact HC267.out);rintro e w28 ⟨rfl,hb⟩;refine ⟨_,rfl,?_⟩;have n0_:=am (below_step (by exact bq HB.out) hb);clear HB;have HB:=n0_;clear n0_;(try clear hb);(try clear hb2);(try clear hk);(try clear hi)) | (go_at_call 65;(with_reducible refine (compact_Size.calls kj7 t268 t269 _ A22.out).mono ?_);rintro e w29 ⟨rfl,hb⟩;have n0_:=am (below_step (by exact bq HB.out) hb);clear HB;have HB:=n0_;clear n0_;(try clear hb);(try clear hb2);(try clear hk);(try clear hi)))
        go_ret3
        exact ⟨by first | rfl | (simp [errW_none,errW_some] <;> rfl) | (simp [*,errW_none,errW_some] <;> rfl),by exact bq HB.out⟩
       rw [if_pos c23] at H;have c23b0 : (t269 == x3_3) = true:=beq_iff_eq.mpr c23;have c23b1 : (t269 != x3_3) = false:=bne_eq_false_iff_eq.mpr c23;clear c23;simp only [Option.some.injEq,Prod.mk.injEq] at H;obtain ⟨rfl,rfl,rfl⟩:=H;have p266 : 0 ≤ (0 : Int):=(by omega);have q266 : 0 < (l0.length : Int):=of_decide_eq_true (by first | (with_reducible assumption) | assumption);obtain ⟨ad266,e266,hx266_0⟩:=Kd.at_int HR0.out 0 p266 q266;obtain rfl : ad264 = ad266:=(by injection e266);have qi266 : (0 < l0.length) = True:=eq_true (by omega)
       (try rw [show ((0 : Int)).toNat = 0 from rfl] at hx266_0)
       (try rw [Addr.add_zero'] at hx266_0)
       replace hx266_0:=(HB.out.cell (World.block_lt_of_cell? w _ hx266_0)).trans hx266_0;replace p266:=eq_true p266;replace q266:=eq_true q266;obtain ⟨i024,hi024,_,hsz24,_⟩:=info_parts info5;obtain ⟨A24,hcut24,hA24,hC24⟩:=print_mid_of (P:=Tryd.prog) (Value.int .u8) 0 26 5 .i64 .i64 Tryd.underlying26 hi024 hsz24 (some ad264) c0 l0 1 x3_3 (by omega) (by first | omega | exact of_decide_eq_true (by first | (with_reducible assumption) | assumption)) (of_decide_eq_true (by first | (with_reducible assumption) | assumption)) HC0.out;have HR267:=am (Kd.C_of_reads (h1:=fun _=>rfl) (hA24 _ (Kd.reads_of_C HR0.out)));have HC267:=am hC24;clear hA24 hC24 hi024 hsz24
       go_wp2_with (first | ((with_reducible refine gate_callee (f:=73) rfl ?_);refine goesL_ (some 40) rfl rfl Tryd.func73 (by kernel_rfl) rfl #[.slice A24 ((l0.take (x3_3 : Int).toNat).drop 1).length (c0 - 1)] rfl (by (try simp only [List.map_toArray,List.map_cons,List.map_nil]);first | done | (rw [show ((l0.take (x3_3 : Int).toNat).drop 1).length = (x3_3.toNat - 1) from (by rw [List.length_drop,List.length_take];have h_ : (x3_3 : Int) ≤ (l0.length : Int):=of_decide_eq_true (by first | (with_reducible assumption) | assumption);omega)] <;> rfl) | rfl | (simp only [List.length_drop,List.length_take];rfl)) ?_;(with_reducible refine (compact_number.calls _ _ ((l0.take (x3_3 : Int).toNat).drop 1) t268 _ ?side1 ?side2 A15.out).mono ?_);(case side1=>repeat (first | exact (Kd.C_below HR267.out HB.out) | (with_reducible refine Kd.C_alloc ?_ _) | (with_reducible refine Kd.C_drewN ?_ _) | (with_reducible refine Kd.C_drew ?_)));(case side2=>exact HC267.out);rintro e w25 ⟨rfl,hb⟩;refine ⟨_,rfl,?_⟩;have n0_:=am (below_step (by exact bq HB.out) hb);clear HB;have HB:=n0_;clear n0_;(try clear hb);(try clear hb2);(try clear hk);(try clear hi)) | (go_at_call 65;(with_reducible refine (compact_Size.calls kj7 t268 t269 _ A22.out).mono ?_);rintro e w26 ⟨rfl,hb⟩;have n0_:=am (below_step (by exact bq HB.out) hb);clear HB;have HB:=n0_;clear n0_;(try clear hb);(try clear hb2);(try clear hk);(try clear hi)))
       go_ret3
       exact ⟨by first | rfl | (simp [errW_none,errW_some] <;> rfl) | (simp [*,errW_none,errW_some] <;> rfl),by exact bq HB.out⟩
-- NOT PRINTED: function 40 (code_reader_nums)
/-! ### compact_Cut: function 60 -/
def compact_Cut.f (k : Nat) (l0 : List Int) : Option (List Int × Int × Bool):=(compact_Take.f k l0).bind fun bt273=>(if bt273.2.2 = true then (if bt273.1 > (wrap64 ((l0.length : Int) - bt273.2.1)) then (some (([] : List Int),0,false)) else (if 0 ≤ bt273.2.1 then (if bt273.2.1 ≤ (wrap64 (bt273.2.1 + bt273.1)) then (if (wrap64 (bt273.2.1 + bt273.1)) ≤ (l0.length : Int) then ((slices_Clone_byte_byte.f ((l0.take ((wrap64 (bt273.2.1 + bt273.1)) : Int).toNat).drop (bt273.2.1 : Int).toNat)).bind fun t277=>(some (t277,wrap64 (bt273.2.1 + bt273.1),true))) else (none)) else (none)) else (none))) else (some (([] : List Int),0,false)))
set_option maxHeartbeats 8000000 in
set_option maxRecDepth 100000 in
theorem compact_Cut.calls (k : Nat) (A0 : Option Addr) (c0 : Nat) (l0 : List Int) (r1 : List Int) (r2 : Int) (r3 : Bool) (w : World) (hr0 : Kd.C (Kd.int .u8) w A0 l0.length l0) (hc0 : l0.length ≤ c0) (h : compact_Cut.f k l0 = some (r1,r2,r3)) :
 Calls Tryd.prog 60 #[.slice A0 l0.length c0] w fun e w'=>∃ v0_ : Value,e = .returned (.tuple #[v0_,.int .i64 r2,.bool r3]) ∧ Kd.R (Kd.int .u8) 5 w' w.heap.size (fun _=>True) v0_ r1 ∧ Below w.heap.size w w':=by
 have HR0:=am hr0;have HC0:=am hc0;clear hr0 hc0;have HB:=am (Below.refl w.heap.size w);have H : ((compact_Take.f k l0).bind fun bt273=>(if bt273.2.2 = true then (if bt273.1 > (wrap64 ((l0.length : Int) - bt273.2.1)) then (some (([] : List Int),0,false)) else (if 0 ≤ bt273.2.1 then (if bt273.2.1 ≤ (wrap64 (bt273.2.1 + bt273.1)) then (if (wrap64 (bt273.2.1 + bt273.1)) ≤ (l0.length : Int) then ((slices_Clone_byte_byte.f ((l0.take ((wrap64 (bt273.2.1 + bt273.1)) : Int).toNat).drop (bt273.2.1 : Int).toNat)).bind fun t277=>(some (t277,wrap64 (bt273.2.1 + bt273.1),true))) else (none)) else (none)) else (none))) else (some (([] : List Int),0,false)))) = some (r1,r2,r3):=h;clear h;replace H:=Option.bind_eq_some_iff.mp H;obtain ⟨⟨t273,t274,t275⟩,A20,H⟩:=H;replace H : (if t275 = true then (if t273 > (wrap64 ((l0.length : Int) - t274)) then (some (([] : List Int),0,false)) else (if 0 ≤ t274 then (if t274 ≤ (wrap64 (t274 + t273)) then (if (wrap64 (t274 + t273)) ≤ (l0.length : Int) then ((slices_Clone_byte_byte.f ((l0.take ((wrap64 (t274 + t273)) : Int).toNat).drop (t274 : Int).toNat)).bind fun t277=>(some (t277,wrap64 (t274 + t273),true))) else (none)) else (none)) else (none))) else (some (([] : List Int),0,false))) = some (r1,r2,r3):=H;have A2:=am A20;clear A20
 by_cases c3 : t275 = true
 rotate_left
 ·replace c3:=Bool.eq_false_iff.mpr c3;subst c3
  have H1 : (some (([] : List Int),0,false)) = some (r1,r2,r3):=by rw [if_neg (show ¬ (false = true) by decide)] at H;exact H
  clear H;have H:=H1;clear H1;simp only [Option.some.injEq,Prod.mk.injEq] at H;obtain ⟨rfl,rfl,rfl⟩:=H;go_enter Tryd.func60,Tryd.ntmps60
  go_wp2_with (first | ((with_reducible refine gate_callee (f:=59) rfl ?_);refine gl (some 9) Tryd.func59 #[.slice A0 l0.length c0] ?_;(with_reducible refine (compact_Take.calls k _ _ l0 t273 t274 false _ ?side1 ?side2 A2.out).mono ?_);(case side1=>repeat (first | exact HR0.out | (with_reducible refine Kd.C_alloc ?_ _) | (with_reducible refine Kd.C_drewN ?_ _) | (with_reducible refine Kd.C_drew ?_)));(case side2=>exact HC0.out);rintro e w13 ⟨rfl,hb⟩;refine ⟨_,rfl,?_⟩;have n0_:=am (below_step (by exact bq HB.out) hb);clear HB;have HB:=n0_;clear n0_;(try clear hb);(try clear hb2);(try clear hk);(try clear hi)))
  go_ret3
  exact ⟨_,by first | rfl | (simp [errW_none,errW_some] <;> rfl) | (simp [*,errW_none,errW_some] <;> rfl),by first | exact Kd.R_nil _ _ _ _ _ | exact Kd.N_nil _ _ _ _ _ | exact Kd.V_nil _ _ _ _ _ | exact Kd.Q_nil _ _ _ _ _ | exact Kd.S_nil _ _ _ _ _,by exact bq HB.out⟩
 subst c3
 have H1 : (if t273 > (wrap64 ((l0.length : Int) - t274)) then (some (([] : List Int),0,false)) else (if 0 ≤ t274 then (if t274 ≤ (wrap64 (t274 + t273)) then (if (wrap64 (t274 + t273)) ≤ (l0.length : Int) then ((slices_Clone_byte_byte.f ((l0.take ((wrap64 (t274 + t273)) : Int).toNat).drop (t274 : Int).toNat)).bind fun t277=>(some (t277,wrap64 (t274 + t273),true))) else (none)) else (none)) else (none))) = some (r1,r2,r3):=by rw [if_pos rfl] at H;exact H
 clear H;have H:=H1;clear H1
 by_cases c4 : t273 > (wrap64 ((l0.length : Int) - t274))
 ·rw [if_pos c4] at H;have c4b0 : decide ((wrap64 ((l0.length : Int) - t274)) < t273) = true:=decide_eq_true c4;clear c4;simp only [Option.some.injEq,Prod.mk.injEq] at H;obtain ⟨rfl,rfl,rfl⟩:=H;go_enter Tryd.func60,Tryd.ntmps60
  go_wp2_with (first | ((with_reducible refine gate_callee (f:=59) rfl ?_);refine gl (some 9) Tryd.func59 #[.slice A0 l0.length c0] ?_;(with_reducible refine (compact_Take.calls k _ _ l0 t273 t274 true _ ?side1 ?side2 A2.out).mono ?_);(case side1=>repeat (first | exact HR0.out | (with_reducible refine Kd.C_alloc ?_ _) | (with_reducible refine Kd.C_drewN ?_ _) | (with_reducible refine Kd.C_drew ?_)));(case side2=>exact HC0.out);rintro e w5 ⟨rfl,hb⟩;refine ⟨_,rfl,?_⟩;have n0_:=am (below_step (by exact bq HB.out) hb);clear HB;have HB:=n0_;clear n0_;(try clear hb);(try clear hb2);(try clear hk);(try clear hi)))
  go_ret3
  exact ⟨_,by first | rfl | (simp [errW_none,errW_some] <;> rfl) | (simp [*,errW_none,errW_some] <;> rfl),by first | exact Kd.R_nil _ _ _ _ _ | exact Kd.N_nil _ _ _ _ _ | exact Kd.V_nil _ _ _ _ _ | exact Kd.Q_nil _ _ _ _ _ | exact Kd.S_nil _ _ _ _ _,by exact bq HB.out⟩
 rw [if_neg c4] at H;have c4b0 : decide ((wrap64 ((l0.length : Int) - t274)) < t273) = false:=decide_eq_false c4;clear c4
 by_cases c6 : 0 ≤ t274
 rotate_left
 ·rw [if_neg c6] at H;exact absurd H (by simp)
 rw [if_pos c6] at H;have c6b0:=eq_true c6;have c6b1 : decide (0 ≤ t274) = true:=decide_eq_true c6;clear c6
 by_cases c7 : t274 ≤ (wrap64 (t274 + t273))
 rotate_left
 ·rw [if_neg c7] at H;exact absurd H (by simp)
 rw [if_pos c7] at H;have c7b0:=eq_true c7;have c7b1 : decide (t274 ≤ (wrap64 (t274 + t273))) = true:=decide_eq_true c7
 by_cases c8 : (wrap64 (t274 + t273)) ≤ (l0.length : Int)
 rotate_left
 ·rw [if_neg c8] at H;exact absurd H (by simp)
 rw [if_pos c8] at H;have c8b0:=eq_true c8;have c8b1 : decide ((wrap64 (t274 + t273)) ≤ (l0.length : Int)) = true:=decide_eq_true c8;replace H:=Option.bind_eq_some_iff.mp H;obtain ⟨t277,A90,H⟩:=H;replace H : (some (t277,wrap64 (t274 + t273),true)) = some (r1,r2,r3):=H;have A9:=am A90;clear A90;simp only [Option.some.injEq,Prod.mk.injEq] at H;obtain ⟨rfl,rfl,rfl⟩:=H;go_enter Tryd.func60,Tryd.ntmps60
 go_wp2_with (first | ((with_reducible refine gate_callee (f:=59) rfl ?_);refine gl (some 9) Tryd.func59 #[.slice A0 l0.length c0] ?_;(with_reducible refine (compact_Take.calls k _ _ l0 t273 t274 true _ ?side1 ?side2 A2.out).mono ?_);(case side1=>repeat (first | exact HR0.out | (with_reducible refine Kd.C_alloc ?_ _) | (with_reducible refine Kd.C_drewN ?_ _) | (with_reducible refine Kd.C_drew ?_)));(case side2=>exact HC0.out);rintro e w10 ⟨rfl,hb⟩;refine ⟨_,rfl,?_⟩;have n0_:=am (below_step (by exact bq HB.out) hb);clear HB;have HB:=n0_;clear n0_;(try clear hb);(try clear hb2);(try clear hk);(try clear hi);obtain ⟨i011,hi011,_,hsz11,_⟩:=info_parts info5;obtain ⟨A11,hcut11,hA11,hC11⟩:=print_mid_of (P:=Tryd.prog) (Value.int .u8) 0 26 5 .i64 .i64 Tryd.underlying26 hi011 hsz11 A0 c0 l0 t274 (wrap64 (t274 + t273)) (of_decide_eq_true (by first | (with_reducible assumption) | assumption)) (by first | omega | exact of_decide_eq_true (by first | (with_reducible assumption) | assumption)) (of_decide_eq_true (by first | (with_reducible assumption) | assumption)) HC0.out;have HR276:=am (Kd.C_of_reads (h1:=fun _=>rfl) (hA11 _ (Kd.reads_of_C HR0.out)));have HC276:=am hC11;clear hA11 hC11 hi011 hsz11) | ((with_reducible refine gate_callee (f:=48) rfl ?_);refine goesL_ (some 29) rfl rfl Tryd.func48 (by kernel_rfl) rfl #[.slice A11 ((l0.take ((wrap64 (t274 + t273)) : Int).toNat).drop (t274 : Int).toNat).length (c0 - t274.toNat)] rfl (by (try simp only [List.map_toArray,List.map_cons,List.map_nil]);first | done | (rw [show ((l0.take ((wrap64 (t274 + t273)) : Int).toNat).drop (t274 : Int).toNat).length = ((wrap64 (t274 + t273)).toNat - t274.toNat) from (by rw [List.length_drop,List.length_take];have h_ : ((wrap64 (t274 + t273)) : Int) ≤ (l0.length : Int):=of_decide_eq_true (by first | (with_reducible assumption) | assumption);omega)] <;> rfl) | rfl | (simp only [List.length_drop,List.length_take];rfl)) ?_;(with_reducible refine (slices_Clone_byte_byte.calls _ _ ((l0.take ((wrap64 (t274 + t273)) : Int).toNat).drop (t274 : Int).toNat) t277 _ ?side1 ?side2 A9.out).mono ?_);(case side1=>repeat (first | exact (Kd.C_below HR276.out HB.out) | (with_reducible refine Kd.C_alloc ?_ _) | (with_reducible refine Kd.C_drewN ?_ _) | (with_reducible refine Kd.C_drew ?_)));(case side2=>exact HC276.out);rintro e w12 ⟨v278,rfl,ho0,hb⟩;refine ⟨_,rfl,?_⟩;have n0_:=am (Kd.R_lower ho0 (below_size (by exact bq HB.out)));have n1_:=am (below_step (by exact bq HB.out) hb);clear HB;have HO279:=n0_;have HB:=n1_;clear n0_ n1_;(try clear hb);(try clear hb2);(try clear hk);(try clear hi);(try clear ho0)))
 go_ret3
 exact ⟨_,by first | rfl | (simp [errW_none,errW_some] <;> rfl) | (simp [*,errW_none,errW_some] <;> rfl),by exact dq HO279.out,by exact bq HB.out⟩
-- NOT PRINTED: function 41 (code_reader_row)
/-! ### code_reader_isWhole: function 42 -/
-- NOT PRINTED: function 23 (code_taken)
-- NOT PRINTED: function 11 (code_DecodeCall)
end Go.Proofs.YtilckocpgififaaDoor.G
-- Laid by this session's own program gprint.py over the kit's print (given functions are proved by hand).
namespace Go.Proofs.YtilckocpgififaaDoor.G
open Go.RowKit Go.Proofs.YtilckocpgififaaDoorW.PrintWords Go.Proofs.YtilckocpgififaaDoorW.PrintLast Go.Proofs.YtilckocpgififaaDoorW.PrintMore
attribute [local go_sem] max2_int min2_int max_two min_two max_three min_three max_four min_four   -- for this text's walks alone
set_option linter.unusedVariables false
set_option linter.unusedSimpArgs false
-- NOT PRINTED: function 3 (althinglaw7_CodeSums)
/-! ### althingref7_in: function 47 -/
def althingref7_in.f (a0 : Int) (a1 : Int) (a2 : Int) : Option (Bool):=if a0 ≥ a1 then (some (decide (a0 ≤ a2))) else (some false)
set_option maxHeartbeats 8000000 in
set_option maxRecDepth 100000 in
theorem althingref7_in.calls (a0 : Int) (a1 : Int) (a2 : Int) (r : Bool) (w : World) (h : althingref7_in.f a0 a1 a2 = some r) :
 Calls Tryd.prog 47 #[.int .i64 a0,.int .i64 a1,.int .i64 a2] w fun e w'=>e = .returned (.bool r) ∧ Drawn0 w w':=by
 have H : (if a0 ≥ a1 then (some (decide (a0 ≤ a2))) else (some false)) = some r:=h;clear h
 by_cases c4 : a0 ≥ a1
 ·rw [if_pos c4] at H;have c4b0 : decide (a1 ≤ a0) = true:=decide_eq_true c4;clear c4;obtain rfl:=Option.some.inj H;go_enter Tryd.func47,Tryd.ntmps47
  go_wp2
  go_ret
  exact ⟨by first | rfl | (simp;done) | (simp [*];done),by repeat (first | exact Drawn0.refl _ | apply Drawn0.step)⟩
 rw [if_neg c4] at H;have c4b0 : decide (a1 ≤ a0) = false:=decide_eq_false c4;clear c4;obtain rfl:=Option.some.inj H;go_enter Tryd.func47,Tryd.ntmps47
 go_wp2
 go_ret
 exact ⟨by first | rfl | (simp;done) | (simp [*];done),by repeat (first | exact Drawn0.refl _ | apply Drawn0.step)⟩
end Go.Proofs.YtilckocpgififaaDoor.G
-- Laid by this session's own program gprint.py over the kit's print (given functions are proved by hand).
namespace Go.Proofs.YtilckocpgififaaDoor.G
open Go.RowKit Go.Proofs.YtilckocpgififaaDoorW.PrintWords Go.Proofs.YtilckocpgififaaDoorW.PrintLast Go.Proofs.YtilckocpgififaaDoorW.PrintMore
attribute [local go_sem] max2_int min2_int max_two min_two max_three min_three max_four min_four   -- for this text's walks alone
set_option linter.unusedVariables false
set_option linter.unusedSimpArgs false
/-! ### althingref7_call: function 26 -/
mutual
def althingref7_call.j0 : Nat → Int → Bool → Int → Int → Int → List (S24) → Option (Bool)
 | 0,_,_,_,_,_,_=>none
 | k + 1,x1,x24,x190000,x190001,x190002,x190003=>if x24 = true then (some false) else (if x190000 = 1 then ((althingref7_in.f x190002 0 1073741824).bind fun t190=>(some t190)) else (if x190000 = 2 then ((althingref7_in.f x190001 0 9).bind fun t191=>(if t191 = true then ((althingref7_in.f x190002 0 1073741824).bind fun t192=>(some t192)) else (some false))) else (if x190000 = 3 then (althingref7_call.j1 k x1 x190000 (x190000 == 3) x190000 x190001 x190002 x190003) else (althingref7_call.j1 k x1 x190000 (x190000 == 4) x190000 x190001 x190002 x190003))))
def althingref7_call.j1 : Nat → Int → Int → Bool → Int → Int → Int → List (S24) → Option (Bool)
 | 0,_,_,_,_,_,_,_=>none
 | k + 1,x1,x26,x42,x190000,x190001,x190002,x190003=>if x42 = true then ((althingref7_in.f x190002 0 11).bind fun t193=>(some t193)) else (if x26 = 5 then (if x190002 = 0 then ((althingref7_in.f (x190003.length : Int) 1 4).bind fun t194=>(if t194 = true then (althingref7_call.j2 k x1 (decide (x1 ≥ 3)) x190000 x190001 x190002 x190003) else (althingref7_call.j2 k x1 true x190000 x190001 x190002 x190003))) else (althingref7_call.j2 k x1 true x190000 x190001 x190002 x190003)) else (some false))
def althingref7_call.j2 : Nat → Int → Bool → Int → Int → Int → List (S24) → Option (Bool)
 | 0,_,_,_,_,_,_=>none
 | k + 1,x1,x63,x190000,x190001,x190002,x190003=>if x63 = true then (some false) else (althingref7_call.l0 k x1 0 x190000 x190001 x190002 x190003)
def althingref7_call.l0 : Nat → Int → Int → Int → Int → Int → List (S24) → Option (Bool)
 | 0,_,_,_,_,_,_=>none
 | k + 1,x1,x5,x190000,x190001,x190002,x190003=>if x5 < (x190003.length : Int) then (if 0 ≤ x5 then ((althingref7_call.f k ((rd_T24 x190003 x5).f0) ((rd_T24 x190003 x5).f1) ((rd_T24 x190003 x5).f2) ((rd_T24 x190003 x5).f3) (wrap64 (x1 + 1))).bind fun t196=>(if t196 = true then (althingref7_call.l0 k x1 (wrap64 (x5 + 1)) x190000 x190001 x190002 x190003) else (some false))) else (none)) else (some true)
def althingref7_call.f : Nat → Int → Int → Int → List (S24) → Int → Option (Bool)
 | 0,_,_,_,_,_=>none
 | k + 1,a0_0,a0_1,a0_2,l0_3,a1=>if a0_0 = 5 then (if a0_0 = 2 then (althingref7_call.j0 k a1 false a0_0 a0_1 a0_2 l0_3) else (althingref7_call.j0 k a1 (a0_1 != 0) a0_0 a0_1 a0_2 l0_3)) else (if (l0_3.length : Int) > 0 then (althingref7_call.j0 k a1 true a0_0 a0_1 a0_2 l0_3) else (if a0_0 = 2 then (althingref7_call.j0 k a1 false a0_0 a0_1 a0_2 l0_3) else (althingref7_call.j0 k a1 (a0_1 != 0) a0_0 a0_1 a0_2 l0_3)))
end
set_option maxHeartbeats 8000000 in
set_option maxRecDepth 100000 in
theorem althingref7_call.calls (k : Nat) : ∀ (a0_0 : Int) (a0_1 : Int) (a0_2 : Int) (A0_3 : Option Addr) (c0_3 : Nat) (l0_3 : List (S24)) (a1 : Int) (r : Bool) (w : World) (hr0_3 : Kd.C k24 w A0_3 l0_3.length l0_3) (hc0_3 : l0_3.length ≤ c0_3) (h : althingref7_call.f k a0_0 a0_1 a0_2 l0_3 a1 = some r),
 Calls Tryd.prog 26 #[.agg #[.int .i64 a0_0,.int .i64 a0_1,.int .i64 a0_2,.slice A0_3 l0_3.length c0_3],.int .i64 a1] w fun e w'=>e = .returned (.bool r) ∧ Below w.heap.size w w':=by
 induction k using Nat.strongRecOn with
 | _ k ih=>
 intro a0_0 a0_1 a0_2 A0_3 c0_3 l0_3 a1 r w hr0_3 hc0_3 h
 cases k with
 | zero=>exact absurd h (by simp [althingref7_call.f])
 | succ k=>
 simp only [althingref7_call.f] at h;have hu24:=Tryd.underlying24;have HR0_3:=am hr0_3;have HC0_3:=am hc0_3;clear hr0_3 hc0_3;have HB:=am (Below.refl w.heap.size w);have H : (if a0_0 = 5 then (if a0_0 = 2 then (althingref7_call.j0 k a1 false a0_0 a0_1 a0_2 l0_3) else (althingref7_call.j0 k a1 (a0_1 != 0) a0_0 a0_1 a0_2 l0_3)) else (if (l0_3.length : Int) > 0 then (althingref7_call.j0 k a1 true a0_0 a0_1 a0_2 l0_3) else (if a0_0 = 2 then (althingref7_call.j0 k a1 false a0_0 a0_1 a0_2 l0_3) else (althingref7_call.j0 k a1 (a0_1 != 0) a0_0 a0_1 a0_2 l0_3)))) = some r:=h;clear h;have HC3:=am H;clear H;go_enter Tryd.func26,Tryd.ntmps26
 go_upto_region 1 with (first | ((with_reducible refine gate_dst (N:=2) rfl ?_);(try (refine gate_guard (by rfl) ?_;dsimp only));refine box_event ?hg (N:=2) ?hd (cs:=#[.int .i64 a0_0,.int .i64 a0_1,.int .i64 a0_2,.slice A0_3 l0_3.length c0_3]) (t:=24) ?hr ?_;(case hd=>rfl);(case hg=>rfl);(case hr=>first | (go_simp;done) | (go_simp;rfl));intro gb189 hg w4 hbox hb;have n0_:=am (below_step (by exact bq HB.out) hb);have n1_:=am (hbox);have n2_:=am ((by rw [hg];exact (below_size (by exact bq HB.out)) : w.heap.size ≤ gb189));have n3_:=am ((by rw [hg];exact (below_size (by exact bq HB.out)) : w.heap.size ≤ gb189));clear HB;have HB:=n0_;have BK189:=n1_;have GW189:=n2_;have GE189:=n3_;clear n0_ n1_ n2_ n3_;clear hb hbox hg))
 (try simp only [Act.put,List.setIfInBounds_toArray,List.set_cons_zero,List.set_cons_succ])
 go_cut [24] (fun v24 wc=>∃ (kq : Nat) (x24_2 : Bool),v24 = .bool x24_2 ∧ Aside0 (althingref7_call.j0 kq a1 x24_2 a0_0 a0_1 a0_2 l0_3 = some r) ∧ Aside0 (kq ≤ k) ∧ Aside0 (wc.heap[gb189]? = some (.cells #[.int .i64 a0_0,.int .i64 a0_1,.int .i64 a0_2,(.slice A0_3 l0_3.length c0_3)] 24 (0,0))) ∧ Aside0 (Below w.heap.size w wc))
 case first=>
  have H:=HC3.out;clear HC3
  by_cases c5 : a0_0 = 5
  ·rw [if_pos c5] at H;have c5b0 : (a0_0 == 5) = true:=beq_iff_eq.mpr c5;have c5b1 : (a0_0 != 5) = false:=bne_eq_false_iff_eq.mpr c5;clear c5
   (first | rw [c5b0] | (simp only [i64_w,i32_w];rw [c5b0]) | skip)
   by_cases c6 : a0_0 = 2
   rotate_left
   ·rw [if_neg c6] at H;have c6b0 : (a0_0 == 2) = false:=beq_eq_false_iff_ne.mpr c6;have c6b1 : (a0_0 != 2) = true:=bne_iff_ne.mpr c6;have H':=am H;clear H;have hcz8_0 : w4.cell? ⟨gb189,0,none⟩ = some (.int .i64 a0_0):=(blk_cell BK189.out 0).trans rfl;have hcz8_1 : w4.cell? ⟨gb189,1,none⟩ = some (.int .i64 a0_1):=(blk_cell BK189.out 1).trans rfl;have hcz8_2 : w4.cell? ⟨gb189,2,none⟩ = some (.int .i64 a0_2):=(blk_cell BK189.out 2).trans rfl;have hcz8_3 : w4.cell? ⟨gb189,3,none⟩ = some (.slice A0_3 l0_3.length c0_3):=(blk_cell BK189.out 3).trans rfl;have hfz8_0:=blk_frozen BK189.out 0;have hfz8_1:=blk_frozen BK189.out 1;have hfz8_2:=blk_frozen BK189.out 2;have hfz8_3:=blk_frozen BK189.out 3
    go_wp2
    go_meet
    case rel=>exact ⟨_,((a0_1 != 0)),(by first | rfl | (simp;done) | (simp [*];done)),H',⟨by first | omega | exact Nat.le_refl _⟩,⟨by exact kq BK189.out⟩,⟨by repeat (first | (with_reducible first | exact HB.out | apply ba | apply bn | apply bd | refine tb_ ?_ GE189.out) | exact HB.out)⟩⟩
   rw [if_pos c6] at H;have c6b0 : (a0_0 == 2) = true:=beq_iff_eq.mpr c6;have c6b1 : (a0_0 != 2) = false:=bne_eq_false_iff_eq.mpr c6;clear c6;have H':=am H;clear H;have hcz7_0 : w4.cell? ⟨gb189,0,none⟩ = some (.int .i64 a0_0):=(blk_cell BK189.out 0).trans rfl;have hcz7_1 : w4.cell? ⟨gb189,1,none⟩ = some (.int .i64 a0_1):=(blk_cell BK189.out 1).trans rfl;have hcz7_2 : w4.cell? ⟨gb189,2,none⟩ = some (.int .i64 a0_2):=(blk_cell BK189.out 2).trans rfl;have hcz7_3 : w4.cell? ⟨gb189,3,none⟩ = some (.slice A0_3 l0_3.length c0_3):=(blk_cell BK189.out 3).trans rfl;have hfz7_0:=blk_frozen BK189.out 0;have hfz7_1:=blk_frozen BK189.out 1;have hfz7_2:=blk_frozen BK189.out 2;have hfz7_3:=blk_frozen BK189.out 3
   go_wp2
   go_meet
   case rel=>exact ⟨_,(false),(by first | rfl | (simp;done) | (simp [*];done)),H',⟨by first | omega | exact Nat.le_refl _⟩,⟨by exact kq BK189.out⟩,⟨by repeat (first | (with_reducible first | exact HB.out | apply ba | apply bn | apply bd | refine tb_ ?_ GE189.out) | exact HB.out)⟩⟩
  rw [if_neg c5] at H;have c5b0 : (a0_0 == 5) = false:=beq_eq_false_iff_ne.mpr c5;have c5b1 : (a0_0 != 5) = true:=bne_iff_ne.mpr c5
  (first | rw [c5b0] | (simp only [i64_w,i32_w];rw [c5b0]) | skip)
  by_cases c9 : (l0_3.length : Int) > 0
  ·rw [if_pos c9] at H;have c9b0 : decide (0 < (l0_3.length : Int)) = true:=decide_eq_true c9;have c9b1 : decide (0 < l0_3.length) = true:=decide_eq_true (by omega);clear c9;have H':=am H;clear H;have hcz10_0 : w4.cell? ⟨gb189,0,none⟩ = some (.int .i64 a0_0):=(blk_cell BK189.out 0).trans rfl;have hcz10_1 : w4.cell? ⟨gb189,1,none⟩ = some (.int .i64 a0_1):=(blk_cell BK189.out 1).trans rfl;have hcz10_2 : w4.cell? ⟨gb189,2,none⟩ = some (.int .i64 a0_2):=(blk_cell BK189.out 2).trans rfl;have hcz10_3 : w4.cell? ⟨gb189,3,none⟩ = some (.slice A0_3 l0_3.length c0_3):=(blk_cell BK189.out 3).trans rfl;have hfz10_0:=blk_frozen BK189.out 0;have hfz10_1:=blk_frozen BK189.out 1;have hfz10_2:=blk_frozen BK189.out 2;have hfz10_3:=blk_frozen BK189.out 3
   go_wp2
   go_meet
   case rel=>exact ⟨_,(true),(by first | rfl | (simp;done) | (simp [*];done)),H',⟨by first | omega | exact Nat.le_refl _⟩,⟨by exact kq BK189.out⟩,⟨by repeat (first | (with_reducible first | exact HB.out | apply ba | apply bn | apply bd | refine tb_ ?_ GE189.out) | exact HB.out)⟩⟩
  rw [if_neg c9] at H;have c9b0 : decide (0 < (l0_3.length : Int)) = false:=decide_eq_false c9;have c9b1 : decide (0 < l0_3.length) = false:=decide_eq_false (by omega);clear c9
  by_cases c11 : a0_0 = 2
  rotate_left
  ·rw [if_neg c11] at H;have c11b0 : (a0_0 == 2) = false:=beq_eq_false_iff_ne.mpr c11;have c11b1 : (a0_0 != 2) = true:=bne_iff_ne.mpr c11;have H':=am H;clear H;have hcz13_0 : w4.cell? ⟨gb189,0,none⟩ = some (.int .i64 a0_0):=(blk_cell BK189.out 0).trans rfl;have hcz13_1 : w4.cell? ⟨gb189,1,none⟩ = some (.int .i64 a0_1):=(blk_cell BK189.out 1).trans rfl;have hcz13_2 : w4.cell? ⟨gb189,2,none⟩ = some (.int .i64 a0_2):=(blk_cell BK189.out 2).trans rfl;have hcz13_3 : w4.cell? ⟨gb189,3,none⟩ = some (.slice A0_3 l0_3.length c0_3):=(blk_cell BK189.out 3).trans rfl;have hfz13_0:=blk_frozen BK189.out 0;have hfz13_1:=blk_frozen BK189.out 1;have hfz13_2:=blk_frozen BK189.out 2;have hfz13_3:=blk_frozen BK189.out 3
   go_wp2
   go_meet
   case rel=>exact ⟨_,((a0_1 != 0)),(by first | rfl | (simp;done) | (simp [*];done)),H',⟨by first | omega | exact Nat.le_refl _⟩,⟨by exact kq BK189.out⟩,⟨by repeat (first | (with_reducible first | exact HB.out | apply ba | apply bn | apply bd | refine tb_ ?_ GE189.out) | exact HB.out)⟩⟩
  rw [if_pos c11] at H;have c11b0 : (a0_0 == 2) = true:=beq_iff_eq.mpr c11;have c11b1 : (a0_0 != 2) = false:=bne_eq_false_iff_eq.mpr c11;clear c11;have H':=am H;clear H;have hcz12_0 : w4.cell? ⟨gb189,0,none⟩ = some (.int .i64 a0_0):=(blk_cell BK189.out 0).trans rfl;have hcz12_1 : w4.cell? ⟨gb189,1,none⟩ = some (.int .i64 a0_1):=(blk_cell BK189.out 1).trans rfl;have hcz12_2 : w4.cell? ⟨gb189,2,none⟩ = some (.int .i64 a0_2):=(blk_cell BK189.out 2).trans rfl;have hcz12_3 : w4.cell? ⟨gb189,3,none⟩ = some (.slice A0_3 l0_3.length c0_3):=(blk_cell BK189.out 3).trans rfl;have hfz12_0:=blk_frozen BK189.out 0;have hfz12_1:=blk_frozen BK189.out 1;have hfz12_2:=blk_frozen BK189.out 2;have hfz12_3:=blk_frozen BK189.out 3
  go_wp2
  go_meet
  case rel=>exact ⟨_,(false),(by first | rfl | (simp;done) | (simp [*];done)),H',⟨by first | omega | exact Nat.le_refl _⟩,⟨by exact kq BK189.out⟩,⟨by repeat (first | (with_reducible first | exact HB.out | apply ba | apply bn | apply bd | refine tb_ ?_ GE189.out) | exact HB.out)⟩⟩
 case rest=>
  clear HC3
  try clear c1
  try clear c2
  try clear p2
  try clear c5
  try clear c5b0
  try clear c5b1
  try clear c6
  try clear c6b0
  try clear c6b1
  try clear c9
  try clear c9b0
  try clear c9b1
  try clear c11
  try clear c11b0
  try clear c11b1
  try clear hcz10_0
  try clear hcz10_1
  try clear hcz10_2
  try clear hcz10_3
  try clear hcz12_0
  try clear hcz12_1
  try clear hcz12_2
  try clear hcz12_3
  try clear hcz13_0
  try clear hcz13_1
  try clear hcz13_2
  try clear hcz13_3
  try clear hcz7_0
  try clear hcz7_1
  try clear hcz7_2
  try clear hcz7_3
  try clear hcz8_0
  try clear hcz8_1
  try clear hcz8_2
  try clear hcz8_3
  try clear hfz10_0
  try clear hfz10_1
  try clear hfz10_2
  try clear hfz10_3
  try clear hfz12_0
  try clear hfz12_1
  try clear hfz12_2
  try clear hfz12_3
  try clear hfz13_0
  try clear hfz13_1
  try clear hfz13_2
  try clear hfz13_3
  try clear hfz7_0
  try clear hfz7_1
  try clear hfz7_2
  try clear hfz7_3
  try clear hfz8_0
  try clear hfz8_1
  try clear hfz8_2
  try clear hfz8_3
  obtain ⟨kq,x24_2,rfl,HA,HJ2,BK189,HB⟩:=hcut
  cases kq with
  | zero=>exact absurd HA.out (by simp [althingref7_call.j0])
  | succ kj2=>
    have H:=HA.out;clear HA;simp only [althingref7_call.j0] at H
    by_cases c14 : x24_2 = true
    ·subst c14
     have H1 : (some false) = some r:=by rw [if_pos rfl] at H;exact H
     clear H;have H:=H1;clear H1;obtain rfl:=Option.some.inj H
     go_wp2
     go_ret
     exact ⟨by first | rfl | (simp [errW_none,errW_some] <;> rfl) | (simp [*,errW_none,errW_some] <;> rfl),by repeat (first | (with_reducible first | exact HB.out | apply ba | apply bn | apply bd | refine tb_ ?_ GE189.out) | exact HB.out)⟩
    replace c14:=Bool.eq_false_iff.mpr c14;subst c14
    have H1 : (if a0_0 = 1 then ((althingref7_in.f a0_2 0 1073741824).bind fun t190=>(some t190)) else (if a0_0 = 2 then ((althingref7_in.f a0_1 0 9).bind fun t191=>(if t191 = true then ((althingref7_in.f a0_2 0 1073741824).bind fun t192=>(some t192)) else (some false))) else (if a0_0 = 3 then (althingref7_call.j1 kj2 a1 a0_0 (a0_0 == 3) a0_0 a0_1 a0_2 l0_3) else (althingref7_call.j1 kj2 a1 a0_0 (a0_0 == 4) a0_0 a0_1 a0_2 l0_3)))) = some r:=by rw [if_neg (show ¬ (false = true) by decide)] at H;exact H
    clear H;have H:=H1;clear H1
    by_cases c15 : a0_0 = 1
    ·rw [if_pos c15] at H;have c15b0 : (a0_0 == 1) = true:=beq_iff_eq.mpr c15;have c15b1 : (a0_0 != 1) = false:=bne_eq_false_iff_eq.mpr c15;clear c15;replace H:=Option.bind_eq_some_iff.mp H;obtain ⟨t190,A160,H⟩:=H;replace H : (some t190) = some r:=H;have A16:=am A160;clear A160;obtain rfl:=Option.some.inj H;have hcz17_0 : wc.cell? ⟨gb189,0,none⟩ = some (.int .i64 a0_0):=(blk_cell BK189.out 0).trans rfl;have hcz17_1 : wc.cell? ⟨gb189,1,none⟩ = some (.int .i64 a0_1):=(blk_cell BK189.out 1).trans rfl;have hcz17_2 : wc.cell? ⟨gb189,2,none⟩ = some (.int .i64 a0_2):=(blk_cell BK189.out 2).trans rfl;have hcz17_3 : wc.cell? ⟨gb189,3,none⟩ = some (.slice A0_3 l0_3.length c0_3):=(blk_cell BK189.out 3).trans rfl;have hfz17_0:=blk_frozen BK189.out 0;have hfz17_1:=blk_frozen BK189.out 1;have hfz17_2:=blk_frozen BK189.out 2;have hfz17_3:=blk_frozen BK189.out 3
     go_wp2_with (first | ((with_reducible refine gate_callee (f:=47) rfl ?_);refine gl (some 31) Tryd.func47 #[.int .i64 a0_2,.int .i64 0,.int .i64 1073741824] ?_;(with_reducible refine (althingref7_in.calls a0_2 0 1073741824 t190 _ A16.out).mono ?_);rintro e w' ⟨rfl,⟨nd,rfl⟩⟩;refine ⟨_,rfl,?_⟩))
     go_ret
     exact ⟨by first | rfl | (simp [errW_none,errW_some] <;> rfl) | (simp [*,errW_none,errW_some] <;> rfl),by repeat (first | (with_reducible first | exact HB.out | apply ba | apply bn | apply bd | refine tb_ ?_ GE189.out) | exact HB.out)⟩
    rw [if_neg c15] at H;have c15b0 : (a0_0 == 1) = false:=beq_eq_false_iff_ne.mpr c15;have c15b1 : (a0_0 != 1) = true:=bne_iff_ne.mpr c15
    by_cases c18 : a0_0 = 2
    ·rw [if_pos c18] at H;have c18b0 : (a0_0 == 2) = true:=beq_iff_eq.mpr c18;have c18b1 : (a0_0 != 2) = false:=bne_eq_false_iff_eq.mpr c18;clear c18;replace H:=Option.bind_eq_some_iff.mp H;obtain ⟨t191,A190,H⟩:=H;replace H : (if t191 = true then ((althingref7_in.f a0_2 0 1073741824).bind fun t192=>(some t192)) else (some false)) = some r:=H;have A19:=am A190;clear A190
     by_cases c20 : t191 = true
     rotate_left
     ·replace c20:=Bool.eq_false_iff.mpr c20;subst c20
      have H1 : (some false) = some r:=by rw [if_neg (show ¬ (false = true) by decide)] at H;exact H
      clear H;have H:=H1;clear H1;obtain rfl:=Option.some.inj H;have hcz23_0 : wc.cell? ⟨gb189,0,none⟩ = some (.int .i64 a0_0):=(blk_cell BK189.out 0).trans rfl;have hcz23_1 : wc.cell? ⟨gb189,1,none⟩ = some (.int .i64 a0_1):=(blk_cell BK189.out 1).trans rfl;have hcz23_2 : wc.cell? ⟨gb189,2,none⟩ = some (.int .i64 a0_2):=(blk_cell BK189.out 2).trans rfl;have hcz23_3 : wc.cell? ⟨gb189,3,none⟩ = some (.slice A0_3 l0_3.length c0_3):=(blk_cell BK189.out 3).trans rfl;have hfz23_0:=blk_frozen BK189.out 0;have hfz23_1:=blk_frozen BK189.out 1;have hfz23_2:=blk_frozen BK189.out 2;have hfz23_3:=blk_frozen BK189.out 3
      go_wp2_with (first | ((with_reducible refine gate_callee (f:=47) rfl ?_);refine gl (some 36) Tryd.func47 #[.int .i64 a0_1,.int .i64 0,.int .i64 9] ?_;(with_reducible refine (althingref7_in.calls a0_1 0 9 false _ A19.out).mono ?_);rintro e w' ⟨rfl,⟨nd,rfl⟩⟩;refine ⟨_,rfl,?_⟩))
      go_ret
      exact ⟨by first | rfl | (simp [errW_none,errW_some] <;> rfl) | (simp [*,errW_none,errW_some] <;> rfl),by repeat (first | (with_reducible first | exact HB.out | apply ba | apply bn | apply bd | refine tb_ ?_ GE189.out) | exact HB.out)⟩
     subst c20
     have H1 : ((althingref7_in.f a0_2 0 1073741824).bind fun t192=>(some t192)) = some r:=by rw [if_pos rfl] at H;exact H
     clear H;have H:=H1;clear H1;replace H:=Option.bind_eq_some_iff.mp H;obtain ⟨t192,A210,H⟩:=H;replace H : (some t192) = some r:=H;have A21:=am A210;clear A210;obtain rfl:=Option.some.inj H;have hcz22_0 : wc.cell? ⟨gb189,0,none⟩ = some (.int .i64 a0_0):=(blk_cell BK189.out 0).trans rfl;have hcz22_1 : wc.cell? ⟨gb189,1,none⟩ = some (.int .i64 a0_1):=(blk_cell BK189.out 1).trans rfl;have hcz22_2 : wc.cell? ⟨gb189,2,none⟩ = some (.int .i64 a0_2):=(blk_cell BK189.out 2).trans rfl;have hcz22_3 : wc.cell? ⟨gb189,3,none⟩ = some (.slice A0_3 l0_3.length c0_3):=(blk_cell BK189.out 3).trans rfl;have hfz22_0:=blk_frozen BK189.out 0;have hfz22_1:=blk_frozen BK189.out 1;have hfz22_2:=blk_frozen BK189.out 2;have hfz22_3:=blk_frozen BK189.out 3
     go_wp2_with (first | ((with_reducible refine gate_callee (f:=47) rfl ?_);refine gl (some 36) Tryd.func47 #[.int .i64 a0_1,.int .i64 0,.int .i64 9] ?_;(with_reducible refine (althingref7_in.calls a0_1 0 9 true _ A19.out).mono ?_);rintro e w' ⟨rfl,⟨nd,rfl⟩⟩;refine ⟨_,rfl,?_⟩) | (go_at_call 47;(with_reducible refine (althingref7_in.calls a0_2 0 1073741824 t192 _ A21.out).mono ?_);rintro e w' ⟨rfl,⟨nd,rfl⟩⟩))
     go_ret
     exact ⟨by first | rfl | (simp [errW_none,errW_some] <;> rfl) | (simp [*,errW_none,errW_some] <;> rfl),by repeat (first | (with_reducible first | exact HB.out | apply ba | apply bn | apply bd | refine tb_ ?_ GE189.out) | exact HB.out)⟩
    rw [if_neg c18] at H;have c18b0 : (a0_0 == 2) = false:=beq_eq_false_iff_ne.mpr c18;have c18b1 : (a0_0 != 2) = true:=bne_iff_ne.mpr c18;have HC24:=am H;clear H;have hcz25_0 : wc.cell? ⟨gb189,0,none⟩ = some (.int .i64 a0_0):=(blk_cell BK189.out 0).trans rfl;have hcz25_1 : wc.cell? ⟨gb189,1,none⟩ = some (.int .i64 a0_1):=(blk_cell BK189.out 1).trans rfl;have hcz25_2 : wc.cell? ⟨gb189,2,none⟩ = some (.int .i64 a0_2):=(blk_cell BK189.out 2).trans rfl;have hcz25_3 : wc.cell? ⟨gb189,3,none⟩ = some (.slice A0_3 l0_3.length c0_3):=(blk_cell BK189.out 3).trans rfl;have hfz25_0:=blk_frozen BK189.out 0;have hfz25_1:=blk_frozen BK189.out 1;have hfz25_2:=blk_frozen BK189.out 2;have hfz25_3:=blk_frozen BK189.out 3
    go_upto_if 42 with (fail)
    go_cut [42] (fun v42 wc=>∃ (kq : Nat) (x42_23 : Bool),v42 = .bool x42_23 ∧ Aside0 (althingref7_call.j1 kq a1 a0_0 x42_23 a0_0 a0_1 a0_2 l0_3 = some r) ∧ Aside0 (kq ≤ kj2) ∧ Aside0 (wc.heap[gb189]? = some (.cells #[.int .i64 a0_0,.int .i64 a0_1,.int .i64 a0_2,(.slice A0_3 l0_3.length c0_3)] 24 (0,0))) ∧ Aside0 (Below w.heap.size w wc))
    case first=>
     have H:=HC24.out;clear HC24
     by_cases c26 : a0_0 = 3
     rotate_left
     ·rw [if_neg c26] at H;have c26b0 : (a0_0 == 3) = false:=beq_eq_false_iff_ne.mpr c26;have c26b1 : (a0_0 != 3) = true:=bne_iff_ne.mpr c26
      (first | rw [c26b0] | (simp only [i64_w,i32_w];rw [c26b0]) | skip)
      have H':=am H;clear H
      go_wp2
      go_meet
      case rel=>exact ⟨_,((a0_0 == 4)),(by first | rfl | (simp;done) | (simp [*];done)),H',⟨by have:=HJ2.out;first | omega | exact Nat.le_refl _⟩,⟨by exact kq BK189.out⟩,⟨by repeat (first | (with_reducible first | exact HB.out | apply ba | apply bn | apply bd | refine tb_ ?_ GE189.out) | exact HB.out)⟩⟩
     rw [if_pos c26] at H;have c26b0 : (a0_0 == 3) = true:=beq_iff_eq.mpr c26;have c26b1 : (a0_0 != 3) = false:=bne_eq_false_iff_eq.mpr c26;clear c26
     (first | rw [c26b0] | (simp only [i64_w,i32_w];rw [c26b0]) | skip)
     have H':=am H;clear H
     go_wp2
     go_meet
     case rel=>exact ⟨_,((a0_0 == 3)),(by first | rfl | (simp;done) | (simp [*];done)),H',⟨by have:=HJ2.out;first | omega | exact Nat.le_refl _⟩,⟨by exact kq BK189.out⟩,⟨by repeat (first | (with_reducible first | exact HB.out | apply ba | apply bn | apply bd | refine tb_ ?_ GE189.out) | exact HB.out)⟩⟩
    case rest=>
     clear HC24
     try clear c1
     try clear c2
     try clear p2
     try clear c4
     try clear c5
     try clear c5b0
     try clear c5b1
     try clear c6
     try clear c6b0
     try clear c6b1
     try clear c9
     try clear c9b0
     try clear c9b1
     try clear c11
     try clear c11b0
     try clear c11b1
     try clear c14
     try clear c15
     try clear c15b0
     try clear c15b1
     try clear c18
     try clear c18b0
     try clear c18b1
     try clear c20
     try clear c26
     try clear c26b0
     try clear c26b1
     try clear hcz10_0
     try clear hcz10_1
     try clear hcz10_2
     try clear hcz10_3
     try clear hcz12_0
     try clear hcz12_1
     try clear hcz12_2
     try clear hcz12_3
     try clear hcz13_0
     try clear hcz13_1
     try clear hcz13_2
     try clear hcz13_3
     try clear hcz17_0
     try clear hcz17_1
     try clear hcz17_2
     try clear hcz17_3
     try clear hcz22_0
     try clear hcz22_1
     try clear hcz22_2
     try clear hcz22_3
     try clear hcz23_0
     try clear hcz23_1
     try clear hcz23_2
     try clear hcz23_3
     try clear hcz25_0
     try clear hcz25_1
     try clear hcz25_2
     try clear hcz25_3
     try clear hcz7_0
     try clear hcz7_1
     try clear hcz7_2
     try clear hcz7_3
     try clear hcz8_0
     try clear hcz8_1
     try clear hcz8_2
     try clear hcz8_3
     try clear hfz10_0
     try clear hfz10_1
     try clear hfz10_2
     try clear hfz10_3
     try clear hfz12_0
     try clear hfz12_1
     try clear hfz12_2
     try clear hfz12_3
     try clear hfz13_0
     try clear hfz13_1
     try clear hfz13_2
     try clear hfz13_3
     try clear hfz17_0
     try clear hfz17_1
     try clear hfz17_2
     try clear hfz17_3
     try clear hfz22_0
     try clear hfz22_1
     try clear hfz22_2
     try clear hfz22_3
     try clear hfz23_0
     try clear hfz23_1
     try clear hfz23_2
     try clear hfz23_3
     try clear hfz25_0
     try clear hfz25_1
     try clear hfz25_2
     try clear hfz25_3
     try clear hfz7_0
     try clear hfz7_1
     try clear hfz7_2
     try clear hfz7_3
     try clear hfz8_0
     try clear hfz8_1
     try clear hfz8_2
     try clear hfz8_3
     try clear p2
     obtain ⟨kq,x42_23,rfl,HA,HJ23,BK189,HB⟩:=hcut
     cases kq with
     | zero=>exact absurd HA.out (by simp [althingref7_call.j1])
     | succ kj23=>
       have H:=HA.out;clear HA;simp only [althingref7_call.j1] at H
       by_cases c27 : x42_23 = true
       ·subst c27
        have H1 : ((althingref7_in.f a0_2 0 11).bind fun t193=>(some t193)) = some r:=by rw [if_pos rfl] at H;exact H
        clear H;have H:=H1;clear H1;replace H:=Option.bind_eq_some_iff.mp H;obtain ⟨t193,A280,H⟩:=H;replace H : (some t193) = some r:=H;have A28:=am A280;clear A280;obtain rfl:=Option.some.inj H;have hcz29_0 : wc.cell? ⟨gb189,0,none⟩ = some (.int .i64 a0_0):=(blk_cell BK189.out 0).trans rfl;have hcz29_1 : wc.cell? ⟨gb189,1,none⟩ = some (.int .i64 a0_1):=(blk_cell BK189.out 1).trans rfl;have hcz29_2 : wc.cell? ⟨gb189,2,none⟩ = some (.int .i64 a0_2):=(blk_cell BK189.out 2).trans rfl;have hcz29_3 : wc.cell? ⟨gb189,3,none⟩ = some (.slice A0_3 l0_3.length c0_3):=(blk_cell BK189.out 3).trans rfl;have hfz29_0:=blk_frozen BK189.out 0;have hfz29_1:=blk_frozen BK189.out 1;have hfz29_2:=blk_frozen BK189.out 2;have hfz29_3:=blk_frozen BK189.out 3
        go_wp2_with (first | ((with_reducible refine gate_callee (f:=47) rfl ?_);refine gl (some 47) Tryd.func47 #[.int .i64 a0_2,.int .i64 0,.int .i64 11] ?_;(with_reducible refine (althingref7_in.calls a0_2 0 11 t193 _ A28.out).mono ?_);rintro e w' ⟨rfl,⟨nd,rfl⟩⟩;refine ⟨_,rfl,?_⟩))
        go_ret
        exact ⟨by first | rfl | (simp [errW_none,errW_some] <;> rfl) | (simp [*,errW_none,errW_some] <;> rfl),by repeat (first | (with_reducible first | exact HB.out | apply ba | apply bn | apply bd | refine tb_ ?_ GE189.out) | exact HB.out)⟩
       replace c27:=Bool.eq_false_iff.mpr c27;subst c27
       have H1 : (if a0_0 = 5 then (if a0_2 = 0 then ((althingref7_in.f (l0_3.length : Int) 1 4).bind fun t194=>(if t194 = true then (althingref7_call.j2 kj23 a1 (decide (a1 ≥ 3)) a0_0 a0_1 a0_2 l0_3) else (althingref7_call.j2 kj23 a1 true a0_0 a0_1 a0_2 l0_3))) else (althingref7_call.j2 kj23 a1 true a0_0 a0_1 a0_2 l0_3)) else (some false)) = some r:=by rw [if_neg (show ¬ (false = true) by decide)] at H;exact H
       clear H;have H:=H1;clear H1
       by_cases c30 : a0_0 = 5
       rotate_left
       ·rw [if_neg c30] at H;have c30b0 : (a0_0 == 5) = false:=beq_eq_false_iff_ne.mpr c30;have c30b1 : (a0_0 != 5) = true:=bne_iff_ne.mpr c30;obtain rfl:=Option.some.inj H
        go_wp2
        go_ret
        exact ⟨by first | rfl | (simp [errW_none,errW_some] <;> rfl) | (simp [*,errW_none,errW_some] <;> rfl),by repeat (first | (with_reducible first | exact HB.out | apply ba | apply bn | apply bd | refine tb_ ?_ GE189.out) | exact HB.out)⟩
       rw [if_pos c30] at H;have c30b0 : (a0_0 == 5) = true:=beq_iff_eq.mpr c30;have c30b1 : (a0_0 != 5) = false:=bne_eq_false_iff_eq.mpr c30;clear c30;have HC31:=am H;clear H
       go_upto_region 12 with (fail)
       go_cut [63] (fun v63 wc=>∃ (kq : Nat) (x63_30 : Bool),v63 = .bool x63_30 ∧ Aside0 (althingref7_call.j2 kq a1 x63_30 a0_0 a0_1 a0_2 l0_3 = some r) ∧ Aside0 (kq ≤ kj23) ∧ Aside0 (wc.heap[gb189]? = some (.cells #[.int .i64 a0_0,.int .i64 a0_1,.int .i64 a0_2,(.slice A0_3 l0_3.length c0_3)] 24 (0,0))) ∧ Aside0 (Below w.heap.size w wc))
       case first=>
        have H:=HC31.out;clear HC31
        by_cases c32 : a0_2 = 0
        rotate_left
        ·rw [if_neg c32] at H;have c32b0 : (a0_2 == 0) = false:=beq_eq_false_iff_ne.mpr c32;have c32b1 : (a0_2 != 0) = true:=bne_iff_ne.mpr c32
         (first | rw [c32b0] | (simp only [i64_w,i32_w];rw [c32b0]) | skip)
         have H':=am H;clear H;have hcz37_0 : wc.cell? ⟨gb189,0,none⟩ = some (.int .i64 a0_0):=(blk_cell BK189.out 0).trans rfl;have hcz37_1 : wc.cell? ⟨gb189,1,none⟩ = some (.int .i64 a0_1):=(blk_cell BK189.out 1).trans rfl;have hcz37_2 : wc.cell? ⟨gb189,2,none⟩ = some (.int .i64 a0_2):=(blk_cell BK189.out 2).trans rfl;have hcz37_3 : wc.cell? ⟨gb189,3,none⟩ = some (.slice A0_3 l0_3.length c0_3):=(blk_cell BK189.out 3).trans rfl;have hfz37_0:=blk_frozen BK189.out 0;have hfz37_1:=blk_frozen BK189.out 1;have hfz37_2:=blk_frozen BK189.out 2;have hfz37_3:=blk_frozen BK189.out 3
         go_wp2
         go_meet
         case rel=>exact ⟨_,(true),(by first | rfl | (simp;done) | (simp [*];done)),H',⟨by have:=HJ2.out;have:=HJ23.out;first | omega | exact Nat.le_refl _⟩,⟨by exact kq BK189.out⟩,⟨by repeat (first | (with_reducible first | exact HB.out | apply ba | apply bn | apply bd | refine tb_ ?_ GE189.out) | exact HB.out)⟩⟩
        rw [if_pos c32] at H;have c32b0 : (a0_2 == 0) = true:=beq_iff_eq.mpr c32;have c32b1 : (a0_2 != 0) = false:=bne_eq_false_iff_eq.mpr c32;clear c32
        (first | rw [c32b0] | (simp only [i64_w,i32_w];rw [c32b0]) | skip)
        replace H:=Option.bind_eq_some_iff.mp H;obtain ⟨t194,A330,H⟩:=H;replace H : (if t194 = true then (althingref7_call.j2 kj23 a1 (decide (a1 ≥ 3)) a0_0 a0_1 a0_2 l0_3) else (althingref7_call.j2 kj23 a1 true a0_0 a0_1 a0_2 l0_3)) = some r:=H;have A33:=am A330;clear A330
        by_cases c34 : t194 = true
        ·subst c34
         have H1 : (althingref7_call.j2 kj23 a1 (decide (a1 ≥ 3)) a0_0 a0_1 a0_2 l0_3) = some r:=by rw [if_pos rfl] at H;exact H
         clear H;have H:=H1;clear H1;have H':=am H;clear H;have hcz35_0 : wc.cell? ⟨gb189,0,none⟩ = some (.int .i64 a0_0):=(blk_cell BK189.out 0).trans rfl;have hcz35_1 : wc.cell? ⟨gb189,1,none⟩ = some (.int .i64 a0_1):=(blk_cell BK189.out 1).trans rfl;have hcz35_2 : wc.cell? ⟨gb189,2,none⟩ = some (.int .i64 a0_2):=(blk_cell BK189.out 2).trans rfl;have hcz35_3 : wc.cell? ⟨gb189,3,none⟩ = some (.slice A0_3 l0_3.length c0_3):=(blk_cell BK189.out 3).trans rfl;have hfz35_0:=blk_frozen BK189.out 0;have hfz35_1:=blk_frozen BK189.out 1;have hfz35_2:=blk_frozen BK189.out 2;have hfz35_3:=blk_frozen BK189.out 3
         go_wp2_with (first | (go_at_call 47;(with_reducible refine (althingref7_in.calls (l0_3.length : Int) 1 4 true _ A33.out).mono ?_);rintro e w' ⟨rfl,⟨nd,rfl⟩⟩))
         go_meet
         case rel=>exact ⟨_,(decide (a1 ≥ 3)),(by first | rfl | (simp;done) | (simp [*];done)),H',⟨by have:=HJ2.out;have:=HJ23.out;first | omega | exact Nat.le_refl _⟩,⟨by exact kq BK189.out⟩,⟨by repeat (first | (with_reducible first | exact HB.out | apply ba | apply bn | apply bd | refine tb_ ?_ GE189.out) | exact HB.out)⟩⟩
        replace c34:=Bool.eq_false_iff.mpr c34;subst c34
        have H1 : (althingref7_call.j2 kj23 a1 true a0_0 a0_1 a0_2 l0_3) = some r:=by rw [if_neg (show ¬ (false = true) by decide)] at H;exact H
        clear H;have H:=H1;clear H1;have H':=am H;clear H;have hcz36_0 : wc.cell? ⟨gb189,0,none⟩ = some (.int .i64 a0_0):=(blk_cell BK189.out 0).trans rfl;have hcz36_1 : wc.cell? ⟨gb189,1,none⟩ = some (.int .i64 a0_1):=(blk_cell BK189.out 1).trans rfl;have hcz36_2 : wc.cell? ⟨gb189,2,none⟩ = some (.int .i64 a0_2):=(blk_cell BK189.out 2).trans rfl;have hcz36_3 : wc.cell? ⟨gb189,3,none⟩ = some (.slice A0_3 l0_3.length c0_3):=(blk_cell BK189.out 3).trans rfl;have hfz36_0:=blk_frozen BK189.out 0;have hfz36_1:=blk_frozen BK189.out 1;have hfz36_2:=blk_frozen BK189.out 2;have hfz36_3:=blk_frozen BK189.out 3
        go_wp2_with (first | (go_at_call 47;(with_reducible refine (althingref7_in.calls (l0_3.length : Int) 1 4 false _ A33.out).mono ?_);rintro e w' ⟨rfl,⟨nd,rfl⟩⟩))
        go_meet
        case rel=>exact ⟨_,(true),(by first | rfl | (simp;done) | (simp [*];done)),H',⟨by have:=HJ2.out;have:=HJ23.out;first | omega | exact Nat.le_refl _⟩,⟨by exact kq BK189.out⟩,⟨by repeat (first | (with_reducible first | exact HB.out | apply ba | apply bn | apply bd | refine tb_ ?_ GE189.out) | exact HB.out)⟩⟩
       case rest=>
        clear HC31
        try clear c1
        try clear c2
        try clear p2
        try clear c3
        try clear c4
        try clear c5
        try clear c5b0
        try clear c5b1
        try clear c6
        try clear c6b0
        try clear c6b1
        try clear c9
        try clear c9b0
        try clear c9b1
        try clear c11
        try clear c11b0
        try clear c11b1
        try clear c14
        try clear c15
        try clear c15b0
        try clear c15b1
        try clear c18
        try clear c18b0
        try clear c18b1
        try clear c20
        try clear c26
        try clear c26b0
        try clear c26b1
        try clear c27
        try clear c30
        try clear c30b0
        try clear c30b1
        try clear c32
        try clear c32b0
        try clear c32b1
        try clear c34
        try clear hcz10_0
        try clear hcz10_1
        try clear hcz10_2
        try clear hcz10_3
        try clear hcz12_0
        try clear hcz12_1
        try clear hcz12_2
        try clear hcz12_3
        try clear hcz13_0
        try clear hcz13_1
        try clear hcz13_2
        try clear hcz13_3
        try clear hcz17_0
        try clear hcz17_1
        try clear hcz17_2
        try clear hcz17_3
        try clear hcz22_0
        try clear hcz22_1
        try clear hcz22_2
        try clear hcz22_3
        try clear hcz23_0
        try clear hcz23_1
        try clear hcz23_2
        try clear hcz23_3
        try clear hcz25_0
        try clear hcz25_1
        try clear hcz25_2
        try clear hcz25_3
        try clear hcz29_0
        try clear hcz29_1
        try clear hcz29_2
        try clear hcz29_3
        try clear hcz35_0
        try clear hcz35_1
        try clear hcz35_2
        try clear hcz35_3
        try clear hcz36_0
        try clear hcz36_1
        try clear hcz36_2
        try clear hcz36_3
        try clear hcz37_0
        try clear hcz37_1
        try clear hcz37_2
        try clear hcz37_3
        try clear hcz7_0
        try clear hcz7_1
        try clear hcz7_2
        try clear hcz7_3
        try clear hcz8_0
        try clear hcz8_1
        try clear hcz8_2
        try clear hcz8_3
        try clear hfz10_0
        try clear hfz10_1
        try clear hfz10_2
        try clear hfz10_3
        try clear hfz12_0
        try clear hfz12_1
        try clear hfz12_2
        try clear hfz12_3
        try clear hfz13_0
        try clear hfz13_1
        try clear hfz13_2
        try clear hfz13_3
        try clear hfz17_0
        try clear hfz17_1
        try clear hfz17_2
        try clear hfz17_3
        try clear hfz22_0
        try clear hfz22_1
        try clear hfz22_2
        try clear hfz22_3
        try clear hfz23_0
        try clear hfz23_1
        try clear hfz23_2
        try clear hfz23_3
        try clear hfz25_0
        try clear hfz25_1
        try clear hfz25_2
        try clear hfz25_3
        try clear hfz29_0
        try clear hfz29_1
        try clear hfz29_2
        try clear hfz29_3
        try clear hfz35_0
        try clear hfz35_1
        try clear hfz35_2
        try clear hfz35_3
        try clear hfz36_0
        try clear hfz36_1
        try clear hfz36_2
        try clear hfz36_3
        try clear hfz37_0
        try clear hfz37_1
        try clear hfz37_2
        try clear hfz37_3
        try clear hfz7_0
        try clear hfz7_1
        try clear hfz7_2
        try clear hfz7_3
        try clear hfz8_0
        try clear hfz8_1
        try clear hfz8_2
        try clear hfz8_3
        try clear p2
        obtain ⟨kq,x63_30,rfl,HA,HJ30,BK189,HB⟩:=hcut
        cases kq with
        | zero=>exact absurd HA.out (by simp [althingref7_call.j2])
        | succ kj30=>
          have H:=HA.out;clear HA;simp only [althingref7_call.j2] at H
          by_cases c38 : x63_30 = true
          ·subst c38
           have H1 : (some false) = some r:=by rw [if_pos rfl] at H;exact H
           clear H;have H:=H1;clear H1;obtain rfl:=Option.some.inj H
           go_wp2
           go_ret
           exact ⟨by first | rfl | (simp [errW_none,errW_some] <;> rfl) | (simp [*,errW_none,errW_some] <;> rfl),by repeat (first | (with_reducible first | exact HB.out | apply ba | apply bn | apply bd | refine tb_ ?_ GE189.out) | exact HB.out)⟩
          replace c38:=Bool.eq_false_iff.mpr c38;subst c38
          have H1 : (althingref7_call.l0 kj30 a1 0 a0_0 a0_1 a0_2 l0_3) = some r:=by rw [if_neg (show ¬ (false = true) by decide)] at H;exact H
          clear H;have H:=H1;clear H1;have H':=am H;clear H
          go_wp2
          go_loopg [5] kj30 (fun kq v5 w'=>∃ (x5_4 : Int),v5 = .int .i64 x5_4 ∧ Aside0 (althingref7_call.l0 kq a1 x5_4 a0_0 a0_1 a0_2 l0_3 = some r) ∧ Aside0 (kq ≤ kj30) ∧ Aside0 (w'.heap[gb189]? = some (.cells #[.int .i64 a0_0,.int .i64 a0_1,.int .i64 a0_2,(.slice A0_3 l0_3.length c0_3)] 24 (0,0))) ∧ Aside0 (Below w.heap.size w w'))
          case atStart=>exact ⟨(0),(by first | rfl | (simp;done) | (simp [*];done)),H',⟨Nat.le_refl _⟩,⟨by exact kq BK189.out⟩,⟨by repeat (first | (with_reducible first | exact HB.out | apply ba | apply bn | apply bd | refine tb_ ?_ GE189.out) | exact HB.out)⟩⟩
          case round=>
           clear H'
           try clear c1
           try clear c2
           try clear p2
           try clear c3
           try clear c4
           try clear c5
           try clear c5b0
           try clear c5b1
           try clear c6
           try clear c6b0
           try clear c6b1
           try clear c9
           try clear c9b0
           try clear c9b1
           try clear c11
           try clear c11b0
           try clear c11b1
           try clear c14
           try clear c15
           try clear c15b0
           try clear c15b1
           try clear c18
           try clear c18b0
           try clear c18b1
           try clear c20
           try clear c26
           try clear c26b0
           try clear c26b1
           try clear c27
           try clear c30
           try clear c30b0
           try clear c30b1
           try clear c32
           try clear c32b0
           try clear c32b1
           try clear c34
           try clear c38
           try clear hcz10_0
           try clear hcz10_1
           try clear hcz10_2
           try clear hcz10_3
           try clear hcz12_0
           try clear hcz12_1
           try clear hcz12_2
           try clear hcz12_3
           try clear hcz13_0
           try clear hcz13_1
           try clear hcz13_2
           try clear hcz13_3
           try clear hcz17_0
           try clear hcz17_1
           try clear hcz17_2
           try clear hcz17_3
           try clear hcz22_0
           try clear hcz22_1
           try clear hcz22_2
           try clear hcz22_3
           try clear hcz23_0
           try clear hcz23_1
           try clear hcz23_2
           try clear hcz23_3
           try clear hcz25_0
           try clear hcz25_1
           try clear hcz25_2
           try clear hcz25_3
           try clear hcz29_0
           try clear hcz29_1
           try clear hcz29_2
           try clear hcz29_3
           try clear hcz35_0
           try clear hcz35_1
           try clear hcz35_2
           try clear hcz35_3
           try clear hcz36_0
           try clear hcz36_1
           try clear hcz36_2
           try clear hcz36_3
           try clear hcz37_0
           try clear hcz37_1
           try clear hcz37_2
           try clear hcz37_3
           try clear hcz7_0
           try clear hcz7_1
           try clear hcz7_2
           try clear hcz7_3
           try clear hcz8_0
           try clear hcz8_1
           try clear hcz8_2
           try clear hcz8_3
           try clear hfz10_0
           try clear hfz10_1
           try clear hfz10_2
           try clear hfz10_3
           try clear hfz12_0
           try clear hfz12_1
           try clear hfz12_2
           try clear hfz12_3
           try clear hfz13_0
           try clear hfz13_1
           try clear hfz13_2
           try clear hfz13_3
           try clear hfz17_0
           try clear hfz17_1
           try clear hfz17_2
           try clear hfz17_3
           try clear hfz22_0
           try clear hfz22_1
           try clear hfz22_2
           try clear hfz22_3
           try clear hfz23_0
           try clear hfz23_1
           try clear hfz23_2
           try clear hfz23_3
           try clear hfz25_0
           try clear hfz25_1
           try clear hfz25_2
           try clear hfz25_3
           try clear hfz29_0
           try clear hfz29_1
           try clear hfz29_2
           try clear hfz29_3
           try clear hfz35_0
           try clear hfz35_1
           try clear hfz35_2
           try clear hfz35_3
           try clear hfz36_0
           try clear hfz36_1
           try clear hfz36_2
           try clear hfz36_3
           try clear hfz37_0
           try clear hfz37_1
           try clear hfz37_2
           try clear hfz37_3
           try clear hfz7_0
           try clear hfz7_1
           try clear hfz7_2
           try clear hfz7_3
           try clear hfz8_0
           try clear hfz8_1
           try clear hfz8_2
           try clear hfz8_3
           try clear p2
           obtain ⟨x5_4,rfl,HA,HK4,BK189,HB⟩:=hrel
           cases gk with
           | zero=>exact absurd HA.out (by simp [althingref7_call.l0])
           | succ k4=>
             have H:=HA.out;clear HA;simp only [althingref7_call.l0] at H
             by_cases c39 : x5_4 < (l0_3.length : Int)
             rotate_left
             ·rw [if_neg c39] at H;have c39b0 : decide (x5_4 < (l0_3.length : Int)) = false:=decide_eq_false c39;clear c39;obtain rfl:=Option.some.inj H;have hcz47_0 : wr.cell? ⟨gb189,0,none⟩ = some (.int .i64 a0_0):=(blk_cell BK189.out 0).trans rfl;have hcz47_1 : wr.cell? ⟨gb189,1,none⟩ = some (.int .i64 a0_1):=(blk_cell BK189.out 1).trans rfl;have hcz47_2 : wr.cell? ⟨gb189,2,none⟩ = some (.int .i64 a0_2):=(blk_cell BK189.out 2).trans rfl;have hcz47_3 : wr.cell? ⟨gb189,3,none⟩ = some (.slice A0_3 l0_3.length c0_3):=(blk_cell BK189.out 3).trans rfl;have hfz47_0:=blk_frozen BK189.out 0;have hfz47_1:=blk_frozen BK189.out 1;have hfz47_2:=blk_frozen BK189.out 2;have hfz47_3:=blk_frozen BK189.out 3
              go_wp2
              go_ret
              exact ⟨by first | rfl | (simp [errW_none,errW_some] <;> rfl) | (simp [*,errW_none,errW_some] <;> rfl),by repeat (first | (with_reducible first | exact HB.out | apply ba | apply bn | apply bd | refine tb_ ?_ GE189.out) | exact HB.out)⟩
             rw [if_pos c39] at H;have c39b0 : decide (x5_4 < (l0_3.length : Int)) = true:=decide_eq_true c39;clear c39
             by_cases c40 : 0 ≤ x5_4
             rotate_left
             ·rw [if_neg c40] at H;exact absurd H (by simp)
             rw [if_pos c40] at H;have c40b0 : decide (0 ≤ x5_4) = true:=decide_eq_true c40;clear c40;replace H:=Option.bind_eq_some_iff.mp H;obtain ⟨t196,A410,H⟩:=H;replace H : (if t196 = true then (althingref7_call.l0 k4 a1 (wrap64 (x5_4 + 1)) a0_0 a0_1 a0_2 l0_3) else (some false)) = some r:=H;have A41:=am A410;clear A410
             by_cases c42 : t196 = true
             rotate_left
             ·replace c42:=Bool.eq_false_iff.mpr c42;subst c42
              have H1 : (some false) = some r:=by rw [if_neg (show ¬ (false = true) by decide)] at H;exact H
              clear H;have H:=H1;clear H1;obtain rfl:=Option.some.inj H;have hcz45_0 : wr.cell? ⟨gb189,0,none⟩ = some (.int .i64 a0_0):=(blk_cell BK189.out 0).trans rfl;have hcz45_1 : wr.cell? ⟨gb189,1,none⟩ = some (.int .i64 a0_1):=(blk_cell BK189.out 1).trans rfl;have hcz45_2 : wr.cell? ⟨gb189,2,none⟩ = some (.int .i64 a0_2):=(blk_cell BK189.out 2).trans rfl;have hcz45_3 : wr.cell? ⟨gb189,3,none⟩ = some (.slice A0_3 l0_3.length c0_3):=(blk_cell BK189.out 3).trans rfl;have hfz45_0:=blk_frozen BK189.out 0;have hfz45_1:=blk_frozen BK189.out 1;have hfz45_2:=blk_frozen BK189.out 2;have hfz45_3:=blk_frozen BK189.out 3;have p195 : 0 ≤ (x5_4 : Int):=of_decide_eq_true (by first | (with_reducible assumption) | assumption);have q195 : x5_4 < (l0_3.length : Int):=of_decide_eq_true (by first | (with_reducible assumption) | assumption);obtain ⟨ad195,A195_3,c195_3,e195,hx195_0,hx195_1,hx195_2,hx195_3,hl195_3,hi195_3⟩:=at_T24 HR0_3.out x5_4 p195 q195;cases e195;replace hx195_0:=(HB.out.cell (World.block_lt_of_cell? w _ hx195_0)).trans hx195_0;replace hx195_1:=(HB.out.cell (World.block_lt_of_cell? w _ hx195_1)).trans hx195_1;replace hx195_2:=(HB.out.cell (World.block_lt_of_cell? w _ hx195_2)).trans hx195_2;replace hx195_3:=(HB.out.cell (World.block_lt_of_cell? w _ hx195_3)).trans hx195_3;have HR195_3:=am hi195_3;have HC195_3:=am hl195_3;clear hi195_3 hl195_3;replace p195:=eq_true p195;replace q195:=eq_true q195
              go_wp2_with (first | ((with_reducible refine gate_callee (f:=26) rfl ?_);refine gl (some 78) Tryd.func26 #[.agg #[.int .i64 ((rd_T24 l0_3 x5_4).f0),.int .i64 ((rd_T24 l0_3 x5_4).f1),.int .i64 ((rd_T24 l0_3 x5_4).f2),.slice A195_3 ((rd_T24 l0_3 x5_4).f3).length c195_3],.int .i64 (wrap64 (a1 + 1))] ?_;(with_reducible refine (ih k4 (by have:=HJ2.out;have:=HJ23.out;have:=HJ30.out;have:=HK4.out;omega) ((rd_T24 l0_3 x5_4).f0) ((rd_T24 l0_3 x5_4).f1) ((rd_T24 l0_3 x5_4).f2) _ _ ((rd_T24 l0_3 x5_4).f3) (wrap64 (a1 + 1)) false _ ?side1 ?side2 A41.out).mono ?_);(case side1=>repeat (first | exact (Kd.C_below HR195_3.out HB.out) | (with_reducible refine Kd.C_alloc ?_ _) | (with_reducible refine Kd.C_drewN ?_ _) | (with_reducible refine Kd.C_drew ?_)));(case side2=>exact HC195_3.out);rintro e w46 ⟨rfl,hb⟩;refine ⟨_,rfl,?_⟩;have n0_:=am (blk_below (g:=gb189) (o:= .cells #[.int .i64 a0_0,.int .i64 a0_1,.int .i64 a0_2,.slice (some ad195) l0_3.length c0_3] 24 (0,0)) (by exact kq BK189.out) hb);have n1_:=am (below_step (by repeat (first | (with_reducible first | exact HB.out | apply ba | apply bn | apply bd | refine tb_ ?_ GE189.out) | exact HB.out)) hb);clear BK189;clear HB;have BK189:=n0_;have HB:=n1_;clear n0_ n1_;(try clear hb);(try clear hb2);(try clear hk);(try clear hi)))
              go_ret
              exact ⟨by first | rfl | (simp [errW_none,errW_some] <;> rfl) | (simp [*,errW_none,errW_some] <;> rfl),by repeat (first | (with_reducible first | exact HB.out | apply ba | apply bn | apply bd | refine tb_ ?_ GE189.out) | exact HB.out)⟩
             subst c42
             have H1 : (althingref7_call.l0 k4 a1 (wrap64 (x5_4 + 1)) a0_0 a0_1 a0_2 l0_3) = some r:=by rw [if_pos rfl] at H;exact H
             clear H;have H:=H1;clear H1;have H':=am H;clear H;have hcz43_0 : wr.cell? ⟨gb189,0,none⟩ = some (.int .i64 a0_0):=(blk_cell BK189.out 0).trans rfl;have hcz43_1 : wr.cell? ⟨gb189,1,none⟩ = some (.int .i64 a0_1):=(blk_cell BK189.out 1).trans rfl;have hcz43_2 : wr.cell? ⟨gb189,2,none⟩ = some (.int .i64 a0_2):=(blk_cell BK189.out 2).trans rfl;have hcz43_3 : wr.cell? ⟨gb189,3,none⟩ = some (.slice A0_3 l0_3.length c0_3):=(blk_cell BK189.out 3).trans rfl;have hfz43_0:=blk_frozen BK189.out 0;have hfz43_1:=blk_frozen BK189.out 1;have hfz43_2:=blk_frozen BK189.out 2;have hfz43_3:=blk_frozen BK189.out 3;have p195 : 0 ≤ (x5_4 : Int):=of_decide_eq_true (by first | (with_reducible assumption) | assumption);have q195 : x5_4 < (l0_3.length : Int):=of_decide_eq_true (by first | (with_reducible assumption) | assumption);obtain ⟨ad195,A195_3,c195_3,e195,hx195_0,hx195_1,hx195_2,hx195_3,hl195_3,hi195_3⟩:=at_T24 HR0_3.out x5_4 p195 q195;cases e195;replace hx195_0:=(HB.out.cell (World.block_lt_of_cell? w _ hx195_0)).trans hx195_0;replace hx195_1:=(HB.out.cell (World.block_lt_of_cell? w _ hx195_1)).trans hx195_1;replace hx195_2:=(HB.out.cell (World.block_lt_of_cell? w _ hx195_2)).trans hx195_2;replace hx195_3:=(HB.out.cell (World.block_lt_of_cell? w _ hx195_3)).trans hx195_3;have HR195_3:=am hi195_3;have HC195_3:=am hl195_3;clear hi195_3 hl195_3;replace p195:=eq_true p195;replace q195:=eq_true q195
             go_wp2_with (first | ((with_reducible refine gate_callee (f:=26) rfl ?_);refine gl (some 78) Tryd.func26 #[.agg #[.int .i64 ((rd_T24 l0_3 x5_4).f0),.int .i64 ((rd_T24 l0_3 x5_4).f1),.int .i64 ((rd_T24 l0_3 x5_4).f2),.slice A195_3 ((rd_T24 l0_3 x5_4).f3).length c195_3],.int .i64 (wrap64 (a1 + 1))] ?_;(with_reducible refine (ih k4 (by have:=HJ2.out;have:=HJ23.out;have:=HJ30.out;have:=HK4.out;omega) ((rd_T24 l0_3 x5_4).f0) ((rd_T24 l0_3 x5_4).f1) ((rd_T24 l0_3 x5_4).f2) _ _ ((rd_T24 l0_3 x5_4).f3) (wrap64 (a1 + 1)) true _ ?side1 ?side2 A41.out).mono ?_);(case side1=>repeat (first | exact (Kd.C_below HR195_3.out HB.out) | (with_reducible refine Kd.C_alloc ?_ _) | (with_reducible refine Kd.C_drewN ?_ _) | (with_reducible refine Kd.C_drew ?_)));(case side2=>exact HC195_3.out);rintro e w44 ⟨rfl,hb⟩;refine ⟨_,rfl,?_⟩;have n0_:=am (blk_below (g:=gb189) (o:= .cells #[.int .i64 a0_0,.int .i64 a0_1,.int .i64 a0_2,.slice (some ad195) l0_3.length c0_3] 24 (0,0)) (by exact kq BK189.out) hb);have n1_:=am (below_step (by repeat (first | (with_reducible first | exact HB.out | apply ba | apply bn | apply bd | refine tb_ ?_ GE189.out) | exact HB.out)) hb);clear BK189;clear HB;have BK189:=n0_;have HB:=n1_;clear n0_ n1_;(try clear hb);(try clear hb2);(try clear hk);(try clear hi)))
             go_roundg k4
             case measure=>have:=HJ2.out;have:=HJ23.out;have:=HJ30.out;have:=HK4.out;omega
             case rel=>exact ⟨(wrap64 (x5_4 + 1)),(by first | rfl | (simp;done) | (simp [*];done)),H',⟨by have:=HJ2.out;have:=HJ23.out;have:=HJ30.out;have:=HK4.out;omega⟩,⟨by exact kq BK189.out⟩,⟨by repeat (first | (with_reducible first | exact HB.out | apply ba | apply bn | apply bd | refine tb_ ?_ GE189.out) | exact HB.out)⟩⟩
end Go.Proofs.YtilckocpgififaaDoor.G
