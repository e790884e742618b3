import Derived.Test.YtilckocpgififaaExHStep
import Derived.Test.YtilckocpgififaaExGx3
import Derived.Test.YtilckocpgififaaExHClone
import Derived.Test.YtilckocpgififaaExHNumber
-- Laid by this session's own program gprint.py over the kit's print (given functions are proved by hand).
namespace Go.Proofs.Ytilckocpgififaa.G
open Go.RowKit Go.Proofs.YtilckocpgififaaW.PrintWords Go.Proofs.YtilckocpgififaaW.PrintLast Go.Proofs.YtilckocpgififaaW.PrintMore
attribute [local go_sem] max2_int min2_int max_two min_two max_three min_three max_four min_four   -- for this text's walks alone
set_option linter.unusedVariables false
set_option linter.unusedSimpArgs false
/-! ### compact_Take: function 61 -/
mutual
def compact_Take.j0 : Nat → List Int → Int → Option (Int × Int × Bool)
 | 0,_,_=>none
 | k + 1,x0,x3=>if x3 > 9 then (compact_Take.j1 k x0 x3 true) else (compact_Take.j1 k x0 x3 (decide (x3 > (x0.length : Int))))
def compact_Take.j1 : Nat → List Int → Int → Bool → Option (Int × Int × Bool)
 | 0,_,_,_=>none
 | k + 1,x0,x3,x31=>if x31 = true then (some (0,0,false)) else (if 0 < (x0.length : Int) then (if (Int.tmod (rd x0 0) 4) = 3 then (if 1 ≤ x3 then (if x3 ≤ (x0.length : Int) then ((compact_number.f ((x0.take (x3 : Int).toNat).drop 1)).bind fun t310=>(if t310 < 0 then (some (0,0,false)) else (if t310 > 4611686018427387904 then (some (0,0,false)) else ((compact_Size.f k t310).bind fun t311=>(if t311 = x3 then (some (t310,x3,true)) else (some (0,0,false))))))) else (none)) else (none)) else (if 0 ≤ x3 then (if x3 ≤ (x0.length : Int) then ((compact_number.f (x0.take (x3 : Int).toNat)).bind fun t313=>(if (wrap64 (Int.tdiv t313 4)) < 0 then (some (0,0,false)) else (if (wrap64 (Int.tdiv t313 4)) > 4611686018427387904 then (some (0,0,false)) else ((compact_Size.f k (wrap64 (Int.tdiv t313 4))).bind fun t314=>(if t314 = x3 then (some (wrap64 (Int.tdiv t313 4),x3,true)) else (some (0,0,false))))))) else (none)) else (none))) else (none))
end
def compact_Take.f (k : Nat) (l0 : List Int) : Option (Int × Int × Bool):=if (l0.length : Int) = 0 then (some (0,0,false)) else (if 0 < (l0.length : Int) then (if (Int.tmod (rd l0 0) 4) = 0 then (compact_Take.j0 k l0 1) else (if (Int.tmod (rd l0 0) 4) = 1 then (compact_Take.j0 k l0 2) else (if (Int.tmod (rd l0 0) 4) = 2 then (compact_Take.j0 k l0 4) else (compact_Take.j0 k l0 (5 + ((Int.tdiv (rd l0 0) 4) % 256)))))) else (none))
set_option maxHeartbeats 8000000 in
set_option maxRecDepth 100000 in
theorem compact_Take.calls (k : Nat) (A0 : Option Addr) (c0 : Nat) (l0 : List Int) (r1 : Int) (r2 : Int) (r3 : Bool) (w : World) (hr0 : Kd.C (Kd.int .u8) w A0 l0.length l0) (hc0 : l0.length ≤ c0) (h : compact_Take.f k l0 = some (r1,r2,r3)) :
 Calls Try.prog 61 #[.slice A0 l0.length c0] w fun e w'=>e = .returned (.tuple #[.int .i64 r1,.int .i64 r2,.bool r3]) ∧ Below w.heap.size w w':=by
 have HR0:=am hr0;have HC0:=am hc0;clear hr0 hc0;have HB:=am (Below.refl w.heap.size w);have H : (if (l0.length : Int) = 0 then (some (0,0,false)) else (if 0 < (l0.length : Int) then (if (Int.tmod (rd l0 0) 4) = 0 then (compact_Take.j0 k l0 1) else (if (Int.tmod (rd l0 0) 4) = 1 then (compact_Take.j0 k l0 2) else (if (Int.tmod (rd l0 0) 4) = 2 then (compact_Take.j0 k l0 4) else (compact_Take.j0 k l0 (5 + ((Int.tdiv (rd l0 0) 4) % 256)))))) else (none))) = some (r1,r2,r3):=h;clear h
 by_cases c2 : (l0.length : Int) = 0
 ·rw [if_pos c2] at H;have c2b0 : ((l0.length : Int) == 0) = true:=beq_iff_eq.mpr c2;have c2b1 : ((l0.length : Int) != 0) = false:=bne_eq_false_iff_eq.mpr c2;clear c2;simp only [Option.some.injEq,Prod.mk.injEq] at H;obtain ⟨rfl,rfl,rfl⟩:=H;go_enter Try.func61,Try.ntmps61
  go_wp2
  go_ret3
  exact ⟨by first | rfl | (simp [errW_none,errW_some] <;> rfl) | (simp [*,errW_none,errW_some] <;> rfl),by exact bq HB.out⟩
 rw [if_neg c2] at H;have c2b0 : ((l0.length : Int) == 0) = false:=beq_eq_false_iff_ne.mpr c2;have c2b1 : ((l0.length : Int) != 0) = true:=bne_iff_ne.mpr c2;have c2b2 : ¬ (l0 = []):=fun h_=>c2 (by rw [h_];rfl)
 by_cases c3 : 0 < (l0.length : Int)
 rotate_left
 ·rw [if_neg c3] at H;exact absurd H (by simp)
 rw [if_pos c3] at H;have c3b0 : decide (0 < (l0.length : Int)) = true:=decide_eq_true c3;have c3b1 : decide (0 < l0.length) = true:=decide_eq_true (by omega);clear c3;have HC4:=am H;clear H;have p306 : 0 ≤ (0 : Int):=(by omega);have q306 : 0 < (l0.length : Int):=of_decide_eq_true (by first | (with_reducible assumption) | assumption);obtain ⟨ad306,e306,hx306_0⟩:=Kd.at_int HR0.out 0 p306 q306;cases e306;have qi306 : (0 < l0.length) = True:=eq_true (by omega)
 (try rw [show ((0 : Int)).toNat = 0 from rfl] at hx306_0)
 (try rw [Addr.add_zero'] at hx306_0)
 replace p306:=eq_true p306;replace q306:=eq_true q306;go_enter Try.func61,Try.ntmps61
 go_upto_block 0 with (fail)
 go_cut [3] (fun v3 wc=>∃ (kq : Nat) (x3_3 : Int),v3 = .int .i64 x3_3 ∧ Aside0 (compact_Take.j0 kq l0 x3_3 = some (r1,r2,r3)) ∧ Aside0 (kq ≤ k) ∧ Aside0 (Below w.heap.size w wc))
 case first=>
  have H:=HC4.out;clear HC4
  by_cases c5 : (Int.tmod (rd l0 0) 4) = 0
  ·rw [if_pos c5] at H;have c5b0 : ((Int.tmod (rd l0 0) 4) == 0) = true:=beq_iff_eq.mpr c5;have c5b1 : ((Int.tmod (rd l0 0) 4) != 0) = false:=bne_eq_false_iff_eq.mpr c5;clear c5
   (first | rw [c5b0] | (simp only [i64_w,i32_w];rw [c5b0]) | skip)
   have H':=am H;clear H
   go_wp2
   go_meet
   case rel=>exact ⟨_,(1),(by first | rfl | (simp;done) | (simp [*];done)),H',⟨by first | omega | exact Nat.le_refl _⟩,⟨by exact bq HB.out⟩⟩
  rw [if_neg c5] at H;have c5b0 : ((Int.tmod (rd l0 0) 4) == 0) = false:=beq_eq_false_iff_ne.mpr c5;have c5b1 : ((Int.tmod (rd l0 0) 4) != 0) = true:=bne_iff_ne.mpr c5
  (first | rw [c5b0] | (simp only [i64_w,i32_w];rw [c5b0]) | skip)
  by_cases c6 : (Int.tmod (rd l0 0) 4) = 1
  ·rw [if_pos c6] at H;have c6b0 : ((Int.tmod (rd l0 0) 4) == 1) = true:=beq_iff_eq.mpr c6;have c6b1 : ((Int.tmod (rd l0 0) 4) != 1) = false:=bne_eq_false_iff_eq.mpr c6;clear c6;have H':=am H;clear H
   go_wp2
   go_meet
   case rel=>exact ⟨_,(2),(by first | rfl | (simp;done) | (simp [*];done)),H',⟨by first | omega | exact Nat.le_refl _⟩,⟨by exact bq HB.out⟩⟩
  rw [if_neg c6] at H;have c6b0 : ((Int.tmod (rd l0 0) 4) == 1) = false:=beq_eq_false_iff_ne.mpr c6;have c6b1 : ((Int.tmod (rd l0 0) 4) != 1) = true:=bne_iff_ne.mpr c6
  by_cases c7 : (Int.tmod (rd l0 0) 4) = 2
  ·rw [if_pos c7] at H;have c7b0 : ((Int.tmod (rd l0 0) 4) == 2) = true:=beq_iff_eq.mpr c7;have c7b1 : ((Int.tmod (rd l0 0) 4) != 2) = false:=bne_eq_false_iff_eq.mpr c7;clear c7;have H':=am H;clear H
   go_wp2
   go_meet
   case rel=>exact ⟨_,(4),(by first | rfl | (simp;done) | (simp [*];done)),H',⟨by first | omega | exact Nat.le_refl _⟩,⟨by exact bq HB.out⟩⟩
  rw [if_neg c7] at H;have c7b0 : ((Int.tmod (rd l0 0) 4) == 2) = false:=beq_eq_false_iff_ne.mpr c7;have c7b1 : ((Int.tmod (rd l0 0) 4) != 2) = true:=bne_iff_ne.mpr c7;have H':=am H;clear H;have p307 : 0 ≤ (0 : Int):=(by omega);have q307 : 0 < (l0.length : Int):=of_decide_eq_true (by first | (with_reducible assumption) | assumption);obtain ⟨ad307,e307,hx307_0⟩:=Kd.at_int HR0.out 0 p307 q307;obtain rfl : ad306 = ad307:=(by injection e307);have qi307 : (0 < l0.length) = True:=eq_true (by omega)
  (try rw [show ((0 : Int)).toNat = 0 from rfl] at hx307_0)
  (try rw [Addr.add_zero'] at hx307_0)
  replace hx307_0:=(HB.out.cell (World.block_lt_of_cell? w _ hx307_0)).trans hx307_0;replace p307:=eq_true p307;replace q307:=eq_true q307
  go_wp2
  go_meet
  case rel=>exact ⟨_,(5 + ((Int.tdiv (rd l0 0) 4) % 256)),(by first | rfl | (simp;done) | (simp [*];done)),H',⟨by first | omega | exact Nat.le_refl _⟩,⟨by exact bq HB.out⟩⟩
 case rest=>
  clear HC4
  try clear c2
  try clear c2b0
  try clear c2b1
  try clear c2b2
  try clear p2
  try clear c3
  try clear c3b0
  try clear c3b1
  try clear p3
  try clear q3
  try clear hx3
  try clear qi3
  try clear c5
  try clear c5b0
  try clear c5b1
  try clear c6
  try clear c6b0
  try clear c6b1
  try clear c7
  try clear c7b0
  try clear c7b1
  try clear hx306_0
  try clear hx307_0
  try clear p306
  try clear p307
  try clear q306
  try clear q307
  obtain ⟨kq,x3_3,rfl,HA,HJ3,HB⟩:=hcut
  cases kq with
  | zero=>exact absurd HA.out (by simp [compact_Take.j0])
  | succ kj3=>
    have H:=HA.out;clear HA;simp only [compact_Take.j0] at H;have HC8:=am H;clear H
    go_upto_region 11 with (fail)
    go_cut [31] (fun v31 wc=>∃ (kq : Nat) (x31_7 : Bool),v31 = .bool x31_7 ∧ Aside0 (compact_Take.j1 kq l0 x3_3 x31_7 = some (r1,r2,r3)) ∧ Aside0 (kq ≤ kj3) ∧ Aside0 (Below w.heap.size w wc))
    case first=>
     have H:=HC8.out;clear HC8
     by_cases c9 : x3_3 > 9
     ·rw [if_pos c9] at H;have c9b0 : decide (9 < x3_3) = true:=decide_eq_true c9;clear c9
      (first | rw [c9b0] | (simp only [i64_w,i32_w];rw [c9b0]) | skip)
      have H':=am H;clear H
      go_wp2
      go_meet
      case rel=>exact ⟨_,(true),(by first | rfl | (simp;done) | (simp [*];done)),H',⟨by have:=HJ3.out;first | omega | exact Nat.le_refl _⟩,⟨by exact bq HB.out⟩⟩
     rw [if_neg c9] at H;have c9b0 : decide (9 < x3_3) = false:=decide_eq_false c9;clear c9
     (first | rw [c9b0] | (simp only [i64_w,i32_w];rw [c9b0]) | skip)
     have H':=am H;clear H
     go_wp2
     go_meet
     case rel=>exact ⟨_,(decide (x3_3 > (l0.length : Int))),(by first | rfl | (simp;done) | (simp [*];done)),H',⟨by have:=HJ3.out;first | omega | exact Nat.le_refl _⟩,⟨by exact bq HB.out⟩⟩
    case rest=>
     clear HC8
     try clear c2
     try clear c2b0
     try clear c2b1
     try clear c2b2
     try clear p2
     try clear c3
     try clear c3b0
     try clear c3b1
     try clear p3
     try clear q3
     try clear hx3
     try clear qi3
     try clear c5
     try clear c5b0
     try clear c5b1
     try clear c6
     try clear c6b0
     try clear c6b1
     try clear c7
     try clear c7b0
     try clear c7b1
     try clear c9
     try clear c9b0
     try clear hx306_0
     try clear hx307_0
     try clear p2
     try clear p3
     try clear p306
     try clear p307
     try clear q3
     try clear q306
     try clear q307
     obtain ⟨kq,x31_7,rfl,HA,HJ7,HB⟩:=hcut
     cases kq with
     | zero=>exact absurd HA.out (by simp [compact_Take.j1])
     | succ kj7=>
       have H:=HA.out;clear HA;simp only [compact_Take.j1] at H
       by_cases c10 : x31_7 = true
       ·subst c10
        have H1 : (some (0,0,false)) = some (r1,r2,r3):=by rw [if_pos rfl] at H;exact H
        clear H;have H:=H1;clear H1;simp only [Option.some.injEq,Prod.mk.injEq] at H;obtain ⟨rfl,rfl,rfl⟩:=H
        go_wp2
        go_ret3
        exact ⟨by first | rfl | (simp [errW_none,errW_some] <;> rfl) | (simp [*,errW_none,errW_some] <;> rfl),by exact bq HB.out⟩
       replace c10:=Bool.eq_false_iff.mpr c10;subst c10
       have H1 : (if 0 < (l0.length : Int) then (if (Int.tmod (rd l0 0) 4) = 3 then (if 1 ≤ x3_3 then (if x3_3 ≤ (l0.length : Int) then ((compact_number.f ((l0.take (x3_3 : Int).toNat).drop 1)).bind fun t310=>(if t310 < 0 then (some (0,0,false)) else (if t310 > 4611686018427387904 then (some (0,0,false)) else ((compact_Size.f kj7 t310).bind fun t311=>(if t311 = x3_3 then (some (t310,x3_3,true)) else (some (0,0,false))))))) else (none)) else (none)) else (if 0 ≤ x3_3 then (if x3_3 ≤ (l0.length : Int) then ((compact_number.f (l0.take (x3_3 : Int).toNat)).bind fun t313=>(if (wrap64 (Int.tdiv t313 4)) < 0 then (some (0,0,false)) else (if (wrap64 (Int.tdiv t313 4)) > 4611686018427387904 then (some (0,0,false)) else ((compact_Size.f kj7 (wrap64 (Int.tdiv t313 4))).bind fun t314=>(if t314 = x3_3 then (some (wrap64 (Int.tdiv t313 4),x3_3,true)) else (some (0,0,false))))))) else (none)) else (none))) else (none)) = some (r1,r2,r3):=by rw [if_neg (show ¬ (false = true) by decide)] at H;exact H
       clear H;have H:=H1;clear H1
       by_cases c11 : 0 < (l0.length : Int)
       rotate_left
       ·rw [if_neg c11] at H;exact absurd H (by simp)
       rw [if_pos c11] at H;have c11b0 : decide (0 < (l0.length : Int)) = true:=decide_eq_true c11;have c11b1 : decide (0 < l0.length) = true:=decide_eq_true (by omega);clear c11
       by_cases c12 : (Int.tmod (rd l0 0) 4) = 3
       rotate_left
       ·rw [if_neg c12] at H;have c12b0 : ((Int.tmod (rd l0 0) 4) == 3) = false:=beq_eq_false_iff_ne.mpr c12;have c12b1 : ((Int.tmod (rd l0 0) 4) != 3) = true:=bne_iff_ne.mpr c12
        by_cases c30 : 0 ≤ x3_3
        rotate_left
        ·rw [if_neg c30] at H;exact absurd H (by simp)
        rw [if_pos c30] at H;have c30b0:=eq_true c30;have c30b1 : decide (0 ≤ x3_3) = true:=decide_eq_true c30;clear c30
        by_cases c31 : x3_3 ≤ (l0.length : Int)
        rotate_left
        ·rw [if_neg c31] at H;exact absurd H (by simp)
        rw [if_pos c31] at H;have c31b0:=eq_true c31;have c31b1 : decide (x3_3 ≤ (l0.length : Int)) = true:=decide_eq_true c31;clear c31;replace H:=Option.bind_eq_some_iff.mp H;obtain ⟨t313,A320,H⟩:=H;replace H : (if (wrap64 (Int.tdiv t313 4)) < 0 then (some (0,0,false)) else (if (wrap64 (Int.tdiv t313 4)) > 4611686018427387904 then (some (0,0,false)) else ((compact_Size.f kj7 (wrap64 (Int.tdiv t313 4))).bind fun t314=>(if t314 = x3_3 then (some (wrap64 (Int.tdiv t313 4),x3_3,true)) else (some (0,0,false)))))) = some (r1,r2,r3):=H;have A32:=am A320;clear A320
        by_cases c33 : (wrap64 (Int.tdiv t313 4)) < 0
        ·rw [if_pos c33] at H;have c33b0 : decide ((wrap64 (Int.tdiv t313 4)) < 0) = true:=decide_eq_true c33;clear c33;simp only [Option.some.injEq,Prod.mk.injEq] at H;obtain ⟨rfl,rfl,rfl⟩:=H;have p308 : 0 ≤ (0 : Int):=(by omega);have q308 : 0 < (l0.length : Int):=of_decide_eq_true (by first | (with_reducible assumption) | assumption);obtain ⟨ad308,e308,hx308_0⟩:=Kd.at_int HR0.out 0 p308 q308;obtain rfl : ad306 = ad308:=(by injection e308);have qi308 : (0 < l0.length) = True:=eq_true (by omega)
         (try rw [show ((0 : Int)).toNat = 0 from rfl] at hx308_0)
         (try rw [Addr.add_zero'] at hx308_0)
         replace hx308_0:=(HB.out.cell (World.block_lt_of_cell? w _ hx308_0)).trans hx308_0;replace p308:=eq_true p308;replace q308:=eq_true q308;obtain ⟨i034,hi034,_,hsz34,_⟩:=info_parts info5;obtain ⟨hcut34,hA34,hC34⟩:=print_take_of (P:=Try.prog) (Value.int .u8) 0 38 5 .i64 Try.underlying38 hi034 hsz34 (some ad306) c0 l0 x3_3 (of_decide_eq_true (by first | (with_reducible assumption) | assumption)) (of_decide_eq_true (by first | (with_reducible assumption) | assumption)) HC0.out;have HR312:=am (Kd.C_of_reads (h1:=fun _=>rfl) (hA34 _ (Kd.reads_of_C HR0.out)));have HC312:=am hC34;clear hA34 hC34 hi034 hsz34
         go_wp2_with (first | ((with_reducible refine gate_callee (f:=70) rfl ?_);refine goesL_ (some 44) rfl rfl Try.func70 (by kernel_rfl) rfl #[.slice (some ad306) (l0.take (x3_3 : Int).toNat).length c0] rfl (by (try simp only [List.map_toArray,List.map_cons,List.map_nil]);first | done | (rw [show (l0.take (x3_3 : Int).toNat).length = x3_3.toNat from (by rw [List.length_take];have h_ : (x3_3 : Int) ≤ (l0.length : Int):=of_decide_eq_true (by first | (with_reducible assumption) | assumption);omega)] <;> rfl) | rfl | (simp only [List.length_drop,List.length_take];rfl)) ?_;(with_reducible refine (compact_number.calls _ _ (l0.take (x3_3 : Int).toNat) t313 _ ?side1 ?side2 A32.out).mono ?_);(case side1=>repeat (first | exact (Kd.C_below HR312.out HB.out) | (with_reducible refine Kd.C_alloc ?_ _) | (with_reducible refine Kd.C_drewN ?_ _) | (with_reducible refine Kd.C_drew ?_)));(case side2=>exact HC312.out);rintro e w35 ⟨rfl,hb⟩;refine ⟨_,rfl,?_⟩;have n0_:=am (below_step (by exact bq HB.out) hb);clear HB;have HB:=n0_;clear n0_;(try clear hb);(try clear hb2);(try clear hk);(try clear hi)))
         go_ret3
         exact ⟨by first | rfl | (simp [errW_none,errW_some] <;> rfl) | (simp [*,errW_none,errW_some] <;> rfl),by exact bq HB.out⟩
        rw [if_neg c33] at H;have c33b0 : decide ((wrap64 (Int.tdiv t313 4)) < 0) = false:=decide_eq_false c33;clear c33
        by_cases c36 : (wrap64 (Int.tdiv t313 4)) > 4611686018427387904
        ·rw [if_pos c36] at H;have c36b0 : decide (4611686018427387904 < (wrap64 (Int.tdiv t313 4))) = true:=decide_eq_true c36;clear c36;simp only [Option.some.injEq,Prod.mk.injEq] at H;obtain ⟨rfl,rfl,rfl⟩:=H;have p308 : 0 ≤ (0 : Int):=(by omega);have q308 : 0 < (l0.length : Int):=of_decide_eq_true (by first | (with_reducible assumption) | assumption);obtain ⟨ad308,e308,hx308_0⟩:=Kd.at_int HR0.out 0 p308 q308;obtain rfl : ad306 = ad308:=(by injection e308);have qi308 : (0 < l0.length) = True:=eq_true (by omega)
         (try rw [show ((0 : Int)).toNat = 0 from rfl] at hx308_0)
         (try rw [Addr.add_zero'] at hx308_0)
         replace hx308_0:=(HB.out.cell (World.block_lt_of_cell? w _ hx308_0)).trans hx308_0;replace p308:=eq_true p308;replace q308:=eq_true q308;obtain ⟨i037,hi037,_,hsz37,_⟩:=info_parts info5;obtain ⟨hcut37,hA37,hC37⟩:=print_take_of (P:=Try.prog) (Value.int .u8) 0 38 5 .i64 Try.underlying38 hi037 hsz37 (some ad306) c0 l0 x3_3 (of_decide_eq_true (by first | (with_reducible assumption) | assumption)) (of_decide_eq_true (by first | (with_reducible assumption) | assumption)) HC0.out;have HR312:=am (Kd.C_of_reads (h1:=fun _=>rfl) (hA37 _ (Kd.reads_of_C HR0.out)));have HC312:=am hC37;clear hA37 hC37 hi037 hsz37
         go_wp2_with (first | ((with_reducible refine gate_callee (f:=70) rfl ?_);refine goesL_ (some 44) rfl rfl Try.func70 (by kernel_rfl) rfl #[.slice (some ad306) (l0.take (x3_3 : Int).toNat).length c0] rfl (by (try simp only [List.map_toArray,List.map_cons,List.map_nil]);first | done | (rw [show (l0.take (x3_3 : Int).toNat).length = x3_3.toNat from (by rw [List.length_take];have h_ : (x3_3 : Int) ≤ (l0.length : Int):=of_decide_eq_true (by first | (with_reducible assumption) | assumption);omega)] <;> rfl) | rfl | (simp only [List.length_drop,List.length_take];rfl)) ?_;(with_reducible refine (compact_number.calls _ _ (l0.take (x3_3 : Int).toNat) t313 _ ?side1 ?side2 A32.out).mono ?_);(case side1=>repeat (first | exact (Kd.C_below HR312.out HB.out) | (with_reducible refine Kd.C_alloc ?_ _) | (with_reducible refine Kd.C_drewN ?_ _) | (with_reducible refine Kd.C_drew ?_)));(case side2=>exact HC312.out);rintro e w38 ⟨rfl,hb⟩;refine ⟨_,rfl,?_⟩;have n0_:=am (below_step (by exact bq HB.out) hb);clear HB;have HB:=n0_;clear n0_;(try clear hb);(try clear hb2);(try clear hk);(try clear hi)))
         go_ret3
         exact ⟨by first | rfl | (simp [errW_none,errW_some] <;> rfl) | (simp [*,errW_none,errW_some] <;> rfl),by exact bq HB.out⟩
        rw [if_neg c36] at H;have c36b0 : decide (4611686018427387904 < (wrap64 (Int.tdiv t313 4))) = false:=decide_eq_false c36;clear c36;replace H:=Option.bind_eq_some_iff.mp H;obtain ⟨t314,A390,H⟩:=H;replace H : (if t314 = x3_3 then (some (wrap64 (Int.tdiv t313 4),x3_3,true)) else (some (0,0,false))) = some (r1,r2,r3):=H;have A39:=am A390;clear A390
        by_cases c40 : t314 = x3_3
        rotate_left
        ·rw [if_neg c40] at H;have c40b0 : (t314 == x3_3) = false:=beq_eq_false_iff_ne.mpr c40;have c40b1 : (t314 != x3_3) = true:=bne_iff_ne.mpr c40;simp only [Option.some.injEq,Prod.mk.injEq] at H;obtain ⟨rfl,rfl,rfl⟩:=H;have p308 : 0 ≤ (0 : Int):=(by omega);have q308 : 0 < (l0.length : Int):=of_decide_eq_true (by first | (with_reducible assumption) | assumption);obtain ⟨ad308,e308,hx308_0⟩:=Kd.at_int HR0.out 0 p308 q308;obtain rfl : ad306 = ad308:=(by injection e308);have qi308 : (0 < l0.length) = True:=eq_true (by omega)
         (try rw [show ((0 : Int)).toNat = 0 from rfl] at hx308_0)
         (try rw [Addr.add_zero'] at hx308_0)
         replace hx308_0:=(HB.out.cell (World.block_lt_of_cell? w _ hx308_0)).trans hx308_0;replace p308:=eq_true p308;replace q308:=eq_true q308;obtain ⟨i044,hi044,_,hsz44,_⟩:=info_parts info5;obtain ⟨hcut44,hA44,hC44⟩:=print_take_of (P:=Try.prog) (Value.int .u8) 0 38 5 .i64 Try.underlying38 hi044 hsz44 (some ad306) c0 l0 x3_3 (of_decide_eq_true (by first | (with_reducible assumption) | assumption)) (of_decide_eq_true (by first | (with_reducible assumption) | assumption)) HC0.out;have HR312:=am (Kd.C_of_reads (h1:=fun _=>rfl) (hA44 _ (Kd.reads_of_C HR0.out)));have HC312:=am hC44;clear hA44 hC44 hi044 hsz44
         go_wp2_with (first | ((with_reducible refine gate_callee (f:=70) rfl ?_);refine goesL_ (some 44) rfl rfl Try.func70 (by kernel_rfl) rfl #[.slice (some ad306) (l0.take (x3_3 : Int).toNat).length c0] rfl (by (try simp only [List.map_toArray,List.map_cons,List.map_nil]);first | done | (rw [show (l0.take (x3_3 : Int).toNat).length = x3_3.toNat from (by rw [List.length_take];have h_ : (x3_3 : Int) ≤ (l0.length : Int):=of_decide_eq_true (by first | (with_reducible assumption) | assumption);omega)] <;> rfl) | rfl | (simp only [List.length_drop,List.length_take];rfl)) ?_;(with_reducible refine (compact_number.calls _ _ (l0.take (x3_3 : Int).toNat) t313 _ ?side1 ?side2 A32.out).mono ?_);(case side1=>repeat (first | exact (Kd.C_below HR312.out HB.out) | (with_reducible refine Kd.C_alloc ?_ _) | (with_reducible refine Kd.C_drewN ?_ _) | (with_reducible refine Kd.C_drew ?_)));(case side2=>exact HC312.out);rintro e w45 ⟨rfl,hb⟩;refine ⟨_,rfl,?_⟩;have n0_:=am (below_step (by exact bq HB.out) hb);clear HB;have HB:=n0_;clear n0_;(try clear hb);(try clear hb2);(try clear hk);(try clear hi)) | (go_at_call 68;(with_reducible refine (compact_Size.calls kj7 (wrap64 (Int.tdiv t313 4)) t314 _ A39.out).mono ?_);rintro e w46 ⟨rfl,hb⟩;have n0_:=am (below_step (by exact bq HB.out) hb);clear HB;have HB:=n0_;clear n0_;(try clear hb);(try clear hb2);(try clear hk);(try clear hi)))
         go_ret3
         exact ⟨by first | rfl | (simp [errW_none,errW_some] <;> rfl) | (simp [*,errW_none,errW_some] <;> rfl),by exact bq HB.out⟩
        rw [if_pos c40] at H;have c40b0 : (t314 == x3_3) = true:=beq_iff_eq.mpr c40;have c40b1 : (t314 != x3_3) = false:=bne_eq_false_iff_eq.mpr c40;clear c40;simp only [Option.some.injEq,Prod.mk.injEq] at H;obtain ⟨rfl,rfl,rfl⟩:=H;have p308 : 0 ≤ (0 : Int):=(by omega);have q308 : 0 < (l0.length : Int):=of_decide_eq_true (by first | (with_reducible assumption) | assumption);obtain ⟨ad308,e308,hx308_0⟩:=Kd.at_int HR0.out 0 p308 q308;obtain rfl : ad306 = ad308:=(by injection e308);have qi308 : (0 < l0.length) = True:=eq_true (by omega)
        (try rw [show ((0 : Int)).toNat = 0 from rfl] at hx308_0)
        (try rw [Addr.add_zero'] at hx308_0)
        replace hx308_0:=(HB.out.cell (World.block_lt_of_cell? w _ hx308_0)).trans hx308_0;replace p308:=eq_true p308;replace q308:=eq_true q308;obtain ⟨i041,hi041,_,hsz41,_⟩:=info_parts info5;obtain ⟨hcut41,hA41,hC41⟩:=print_take_of (P:=Try.prog) (Value.int .u8) 0 38 5 .i64 Try.underlying38 hi041 hsz41 (some ad306) c0 l0 x3_3 (of_decide_eq_true (by first | (with_reducible assumption) | assumption)) (of_decide_eq_true (by first | (with_reducible assumption) | assumption)) HC0.out;have HR312:=am (Kd.C_of_reads (h1:=fun _=>rfl) (hA41 _ (Kd.reads_of_C HR0.out)));have HC312:=am hC41;clear hA41 hC41 hi041 hsz41
        go_wp2_with (first | ((with_reducible refine gate_callee (f:=70) rfl ?_);refine goesL_ (some 44) rfl rfl Try.func70 (by kernel_rfl) rfl #[.slice (some ad306) (l0.take (x3_3 : Int).toNat).length c0] rfl (by (try simp only [List.map_toArray,List.map_cons,List.map_nil]);first | done | (rw [show (l0.take (x3_3 : Int).toNat).length = x3_3.toNat from (by rw [List.length_take];have h_ : (x3_3 : Int) ≤ (l0.length : Int):=of_decide_eq_true (by first | (with_reducible assumption) | assumption);omega)] <;> rfl) | rfl | (simp only [List.length_drop,List.length_take];rfl)) ?_;(with_reducible refine (compact_number.calls _ _ (l0.take (x3_3 : Int).toNat) t313 _ ?side1 ?side2 A32.out).mono ?_);(case side1=>repeat (first | exact (Kd.C_below HR312.out HB.out) | (with_reducible refine Kd.C_alloc ?_ _) | (with_reducible refine Kd.C_drewN ?_ _) | (with_reducible refine Kd.C_drew ?_)));(case side2=>exact HC312.out);rintro e w42 ⟨rfl,hb⟩;refine ⟨_,rfl,?_⟩;have n0_:=am (below_step (by exact bq HB.out) hb);clear HB;have HB:=n0_;clear n0_;(try clear hb);(try clear hb2);(try clear hk);(try clear hi)) | (go_at_call 68;(with_reducible refine (compact_Size.calls kj7 (wrap64 (Int.tdiv t313 4)) t314 _ A39.out).mono ?_);rintro e w43 ⟨rfl,hb⟩;have n0_:=am (below_step (by exact bq HB.out) hb);clear HB;have HB:=n0_;clear n0_;(try clear hb);(try clear hb2);(try clear hk);(try clear hi)))
        go_ret3
        exact ⟨by first | rfl | (simp [errW_none,errW_some] <;> rfl) | (simp [*,errW_none,errW_some] <;> rfl),by exact bq HB.out⟩
       rw [if_pos c12] at H;have c12b0 : ((Int.tmod (rd l0 0) 4) == 3) = true:=beq_iff_eq.mpr c12;have c12b1 : ((Int.tmod (rd l0 0) 4) != 3) = false:=bne_eq_false_iff_eq.mpr c12;clear c12
       by_cases c13 : 1 ≤ x3_3
       rotate_left
       ·rw [if_neg c13] at H;exact absurd H (by simp)
       rw [if_pos c13] at H;have c13b0:=eq_true c13;have c13b1 : decide (1 ≤ x3_3) = true:=decide_eq_true c13;clear c13
       by_cases c14 : x3_3 ≤ (l0.length : Int)
       rotate_left
       ·rw [if_neg c14] at H;exact absurd H (by simp)
       rw [if_pos c14] at H;have c14b0:=eq_true c14;have c14b1 : decide (x3_3 ≤ (l0.length : Int)) = true:=decide_eq_true c14;clear c14;replace H:=Option.bind_eq_some_iff.mp H;obtain ⟨t310,A150,H⟩:=H;replace H : (if t310 < 0 then (some (0,0,false)) else (if t310 > 4611686018427387904 then (some (0,0,false)) else ((compact_Size.f kj7 t310).bind fun t311=>(if t311 = x3_3 then (some (t310,x3_3,true)) else (some (0,0,false)))))) = some (r1,r2,r3):=H;have A15:=am A150;clear A150
       by_cases c16 : t310 < 0
       ·rw [if_pos c16] at H;have c16b0 : decide (t310 < 0) = true:=decide_eq_true c16;clear c16;simp only [Option.some.injEq,Prod.mk.injEq] at H;obtain ⟨rfl,rfl,rfl⟩:=H;have p308 : 0 ≤ (0 : Int):=(by omega);have q308 : 0 < (l0.length : Int):=of_decide_eq_true (by first | (with_reducible assumption) | assumption);obtain ⟨ad308,e308,hx308_0⟩:=Kd.at_int HR0.out 0 p308 q308;obtain rfl : ad306 = ad308:=(by injection e308);have qi308 : (0 < l0.length) = True:=eq_true (by omega)
        (try rw [show ((0 : Int)).toNat = 0 from rfl] at hx308_0)
        (try rw [Addr.add_zero'] at hx308_0)
        replace hx308_0:=(HB.out.cell (World.block_lt_of_cell? w _ hx308_0)).trans hx308_0;replace p308:=eq_true p308;replace q308:=eq_true q308;obtain ⟨i017,hi017,_,hsz17,_⟩:=info_parts info5;obtain ⟨A17,hcut17,hA17,hC17⟩:=print_mid_of (P:=Try.prog) (Value.int .u8) 0 38 5 .i64 .i64 Try.underlying38 hi017 hsz17 (some ad306) c0 l0 1 x3_3 (by omega) (by first | omega | exact of_decide_eq_true (by first | (with_reducible assumption) | assumption)) (of_decide_eq_true (by first | (with_reducible assumption) | assumption)) HC0.out;have HR309:=am (Kd.C_of_reads (h1:=fun _=>rfl) (hA17 _ (Kd.reads_of_C HR0.out)));have HC309:=am hC17;clear hA17 hC17 hi017 hsz17
        go_wp2_with (first | ((with_reducible refine gate_callee (f:=70) rfl ?_);refine goesL_ (some 40) rfl rfl Try.func70 (by kernel_rfl) rfl #[.slice A17 ((l0.take (x3_3 : Int).toNat).drop 1).length (c0 - 1)] rfl (by (try simp only [List.map_toArray,List.map_cons,List.map_nil]);first | done | (rw [show ((l0.take (x3_3 : Int).toNat).drop 1).length = (x3_3.toNat - 1) from (by rw [List.length_drop,List.length_take];have h_ : (x3_3 : Int) ≤ (l0.length : Int):=of_decide_eq_true (by first | (with_reducible assumption) | assumption);omega)] <;> rfl) | rfl | (simp only [List.length_drop,List.length_take];rfl)) ?_;(with_reducible refine (compact_number.calls _ _ ((l0.take (x3_3 : Int).toNat).drop 1) t310 _ ?side1 ?side2 A15.out).mono ?_);(case side1=>repeat (first | exact (Kd.C_below HR309.out HB.out) | (with_reducible refine Kd.C_alloc ?_ _) | (with_reducible refine Kd.C_drewN ?_ _) | (with_reducible refine Kd.C_drew ?_)));(case side2=>exact HC309.out);rintro e w18 ⟨rfl,hb⟩;refine ⟨_,rfl,?_⟩;have n0_:=am (below_step (by exact bq HB.out) hb);clear HB;have HB:=n0_;clear n0_;(try clear hb);(try clear hb2);(try clear hk);(try clear hi)))
        go_ret3
        exact ⟨by first | rfl | (simp [errW_none,errW_some] <;> rfl) | (simp [*,errW_none,errW_some] <;> rfl),by exact bq HB.out⟩
       rw [if_neg c16] at H;have c16b0 : decide (t310 < 0) = false:=decide_eq_false c16;clear c16
       by_cases c19 : t310 > 4611686018427387904
       ·rw [if_pos c19] at H;have c19b0 : decide (4611686018427387904 < t310) = true:=decide_eq_true c19;clear c19;simp only [Option.some.injEq,Prod.mk.injEq] at H;obtain ⟨rfl,rfl,rfl⟩:=H;have p308 : 0 ≤ (0 : Int):=(by omega);have q308 : 0 < (l0.length : Int):=of_decide_eq_true (by first | (with_reducible assumption) | assumption);obtain ⟨ad308,e308,hx308_0⟩:=Kd.at_int HR0.out 0 p308 q308;obtain rfl : ad306 = ad308:=(by injection e308);have qi308 : (0 < l0.length) = True:=eq_true (by omega)
        (try rw [show ((0 : Int)).toNat = 0 from rfl] at hx308_0)
        (try rw [Addr.add_zero'] at hx308_0)
        replace hx308_0:=(HB.out.cell (World.block_lt_of_cell? w _ hx308_0)).trans hx308_0;replace p308:=eq_true p308;replace q308:=eq_true q308;obtain ⟨i020,hi020,_,hsz20,_⟩:=info_parts info5;obtain ⟨A20,hcut20,hA20,hC20⟩:=print_mid_of (P:=Try.prog) (Value.int .u8) 0 38 5 .i64 .i64 Try.underlying38 hi020 hsz20 (some ad306) c0 l0 1 x3_3 (by omega) (by first | omega | exact of_decide_eq_true (by first | (with_reducible assumption) | assumption)) (of_decide_eq_true (by first | (with_reducible assumption) | assumption)) HC0.out;have HR309:=am (Kd.C_of_reads (h1:=fun _=>rfl) (hA20 _ (Kd.reads_of_C HR0.out)));have HC309:=am hC20;clear hA20 hC20 hi020 hsz20
        go_wp2_with (first | ((with_reducible refine gate_callee (f:=70) rfl ?_);refine goesL_ (some 40) rfl rfl Try.func70 (by kernel_rfl) rfl #[.slice A20 ((l0.take (x3_3 : Int).toNat).drop 1).length (c0 - 1)] rfl (by (try simp only [List.map_toArray,List.map_cons,List.map_nil]);first | done | (rw [show ((l0.take (x3_3 : Int).toNat).drop 1).length = (x3_3.toNat - 1) from (by rw [List.length_drop,List.length_take];have h_ : (x3_3 : Int) ≤ (l0.length : Int):=of_decide_eq_true (by first | (with_reducible assumption) | assumption);omega)] <;> rfl) | rfl | (simp only [List.length_drop,List.length_take];rfl)) ?_;(with_reducible refine (compact_number.calls _ _ ((l0.take (x3_3 : Int).toNat).drop 1) t310 _ ?side1 ?side2 A15.out).mono ?_);(case side1=>repeat (first | exact (Kd.C_below HR309.out HB.out) | (with_reducible refine Kd.C_alloc ?_ _) | (with_reducible refine Kd.C_drewN ?_ _) | (with_reducible refine Kd.C_drew ?_)));(case side2=>exact HC309.out);rintro e w21 ⟨rfl,hb⟩;refine ⟨_,rfl,?_⟩;have n0_:=am (below_step (by exact bq HB.out) hb);clear HB;have HB:=n0_;clear n0_;(try clear hb);(try clear hb2);(try clear hk);(try clear hi)))
        go_ret3
        exact ⟨by first | rfl | (simp [errW_none,errW_some] <;> rfl) | (simp [*,errW_none,errW_some] <;> rfl),by exact bq HB.out⟩
       rw [if_neg c19] at H;have c19b0 : decide (4611686018427387904 < t310) = false:=decide_eq_false c19;clear c19;replace H:=Option.bind_eq_some_iff.mp H;obtain ⟨t311,A220,H⟩:=H;replace H : (if t311 = x3_3 then (some (t310,x3_3,true)) else (some (0,0,false))) = some (r1,r2,r3):=H;have A22:=am A220;clear A220
       by_cases c23 : t311 = x3_3
       rotate_left
       ·rw [if_neg c23] at H;have c23b0 : (t311 == x3_3) = false:=beq_eq_false_iff_ne.mpr c23;have c23b1 : (t311 != x3_3) = true:=bne_iff_ne.mpr c23;simp only [Option.some.injEq,Prod.mk.injEq] at H;obtain ⟨rfl,rfl,rfl⟩:=H;have p308 : 0 ≤ (0 : Int):=(by omega);have q308 : 0 < (l0.length : Int):=of_decide_eq_true (by first | (with_reducible assumption) | assumption);obtain ⟨ad308,e308,hx308_0⟩:=Kd.at_int HR0.out 0 p308 q308;obtain rfl : ad306 = ad308:=(by injection e308);have qi308 : (0 < l0.length) = True:=eq_true (by omega)
        (try rw [show ((0 : Int)).toNat = 0 from rfl] at hx308_0)
        (try rw [Addr.add_zero'] at hx308_0)
        replace hx308_0:=(HB.out.cell (World.block_lt_of_cell? w _ hx308_0)).trans hx308_0;replace p308:=eq_true p308;replace q308:=eq_true q308;obtain ⟨i027,hi027,_,hsz27,_⟩:=info_parts info5;obtain ⟨A27,hcut27,hA27,hC27⟩:=print_mid_of (P:=Try.prog) (Value.int .u8) 0 38 5 .i64 .i64 Try.underlying38 hi027 hsz27 (some ad306) c0 l0 1 x3_3 (by omega) (by first | omega | exact of_decide_eq_true (by first | (with_reducible assumption) | assumption)) (of_decide_eq_true (by first | (with_reducible assumption) | assumption)) HC0.out;have HR309:=am (Kd.C_of_reads (h1:=fun _=>rfl) (hA27 _ (Kd.reads_of_C HR0.out)));have HC309:=am hC27;clear hA27 hC27 hi027 hsz27
        go_wp2_with (first | ((with_reducible refine gate_callee (f:=70) rfl ?_);refine goesL_ (some 40) rfl rfl Try.func70 (by kernel_rfl) rfl #[.slice A27 ((l0.take (x3_3 : Int).toNat).drop 1).length (c0 - 1)] rfl (by (try simp only [List.map_toArray,List.map_cons,List.map_nil]);first | done | (rw [show ((l0.take (x3_3 : Int).toNat).drop 1).length = (x3_3.toNat - 1) from (by rw [List.length_drop,List.length_take];have h_ : (x3_3 : Int) ≤ (l0.length : Int):=of_decide_eq_true (by first | (with_reducible assumption) | assumption);omega)] <;> rfl) | rfl | (simp only [List.length_drop,List.length_take];rfl)) ?_;(with_reducible refine (compact_number.calls _ _ ((l0.take (x3_3 : Int).toNat).drop 1) t310 _ ?side1 ?side2 A15.out).mono ?_);(case side1=>repeat (first | exact (Kd.C_below HR309.out HB.out) | (with_reducible refine Kd.C_alloc ?_ _) | (with_reducible refine Kd.C_drewN ?_ _) | (with_reducible refine Kd.C_drew ?_)));(case side2=>exact HC309.out);rintro e w28 ⟨rfl,hb⟩;refine ⟨_,rfl,?_⟩;have n0_:=am (below_step (by exact bq HB.out) hb);clear HB;have HB:=n0_;clear n0_;(try clear hb);(try clear hb2);(try clear hk);(try clear hi)) | (go_at_call 68;(with_reducible refine (compact_Size.calls kj7 t310 t311 _ A22.out).mono ?_);rintro e w29 ⟨rfl,hb⟩;have n0_:=am (below_step (by exact bq HB.out) hb);clear HB;have HB:=n0_;clear n0_;(try clear hb);(try clear hb2);(try clear hk);(try clear hi)))
        go_ret3
        exact ⟨by first | rfl | (simp [errW_none,errW_some] <;> rfl) | (simp [*,errW_none,errW_some] <;> rfl),by exact bq HB.out⟩
       rw [if_pos c23] at H;have c23b0 : (t311 == x3_3) = true:=beq_iff_eq.mpr c23;have c23b1 : (t311 != x3_3) = false:=bne_eq_false_iff_eq.mpr c23;clear c23;simp only [Option.some.injEq,Prod.mk.injEq] at H;obtain ⟨rfl,rfl,rfl⟩:=H;have p308 : 0 ≤ (0 : Int):=(by omega);have q308 : 0 < (l0.length : Int):=of_decide_eq_true (by first | (with_reducible assumption) | assumption);obtain ⟨ad308,e308,hx308_0⟩:=Kd.at_int HR0.out 0 p308 q308;obtain rfl : ad306 = ad308:=(by injection e308);have qi308 : (0 < l0.length) = True:=eq_true (by omega)
       (try rw [show ((0 : Int)).toNat = 0 from rfl] at hx308_0)
       (try rw [Addr.add_zero'] at hx308_0)
       replace hx308_0:=(HB.out.cell (World.block_lt_of_cell? w _ hx308_0)).trans hx308_0;replace p308:=eq_true p308;replace q308:=eq_true q308;obtain ⟨i024,hi024,_,hsz24,_⟩:=info_parts info5;obtain ⟨A24,hcut24,hA24,hC24⟩:=print_mid_of (P:=Try.prog) (Value.int .u8) 0 38 5 .i64 .i64 Try.underlying38 hi024 hsz24 (some ad306) c0 l0 1 x3_3 (by omega) (by first | omega | exact of_decide_eq_true (by first | (with_reducible assumption) | assumption)) (of_decide_eq_true (by first | (with_reducible assumption) | assumption)) HC0.out;have HR309:=am (Kd.C_of_reads (h1:=fun _=>rfl) (hA24 _ (Kd.reads_of_C HR0.out)));have HC309:=am hC24;clear hA24 hC24 hi024 hsz24
       go_wp2_with (first | ((with_reducible refine gate_callee (f:=70) rfl ?_);refine goesL_ (some 40) rfl rfl Try.func70 (by kernel_rfl) rfl #[.slice A24 ((l0.take (x3_3 : Int).toNat).drop 1).length (c0 - 1)] rfl (by (try simp only [List.map_toArray,List.map_cons,List.map_nil]);first | done | (rw [show ((l0.take (x3_3 : Int).toNat).drop 1).length = (x3_3.toNat - 1) from (by rw [List.length_drop,List.length_take];have h_ : (x3_3 : Int) ≤ (l0.length : Int):=of_decide_eq_true (by first | (with_reducible assumption) | assumption);omega)] <;> rfl) | rfl | (simp only [List.length_drop,List.length_take];rfl)) ?_;(with_reducible refine (compact_number.calls _ _ ((l0.take (x3_3 : Int).toNat).drop 1) t310 _ ?side1 ?side2 A15.out).mono ?_);(case side1=>repeat (first | exact (Kd.C_below HR309.out HB.out) | (with_reducible refine Kd.C_alloc ?_ _) | (with_reducible refine Kd.C_drewN ?_ _) | (with_reducible refine Kd.C_drew ?_)));(case side2=>exact HC309.out);rintro e w25 ⟨rfl,hb⟩;refine ⟨_,rfl,?_⟩;have n0_:=am (below_step (by exact bq HB.out) hb);clear HB;have HB:=n0_;clear n0_;(try clear hb);(try clear hb2);(try clear hk);(try clear hi)) | (go_at_call 68;(with_reducible refine (compact_Size.calls kj7 t310 t311 _ A22.out).mono ?_);rintro e w26 ⟨rfl,hb⟩;have n0_:=am (below_step (by exact bq HB.out) hb);clear HB;have HB:=n0_;clear n0_;(try clear hb);(try clear hb2);(try clear hk);(try clear hi)))
       go_ret3
       exact ⟨by first | rfl | (simp [errW_none,errW_some] <;> rfl) | (simp [*,errW_none,errW_some] <;> rfl),by exact bq HB.out⟩
-- NOT PRINTED: function 43 (code_reader_nums)
/-! ### compact_Cut: function 62 -/
def compact_Cut.f (k : Nat) (l0 : List Int) : Option (List Int × Int × Bool):=(compact_Take.f k l0).bind fun bt315=>(if bt315.2.2 = true then (if bt315.1 > (wrap64 ((l0.length : Int) - bt315.2.1)) then (some (([] : List Int),0,false)) else (if 0 ≤ bt315.2.1 then (if bt315.2.1 ≤ (wrap64 (bt315.2.1 + bt315.1)) then (if (wrap64 (bt315.2.1 + bt315.1)) ≤ (l0.length : Int) then ((slices_Clone_byte_byte.f ((l0.take ((wrap64 (bt315.2.1 + bt315.1)) : Int).toNat).drop (bt315.2.1 : Int).toNat)).bind fun t319=>(some (t319,wrap64 (bt315.2.1 + bt315.1),true))) else (none)) else (none)) else (none))) else (some (([] : List Int),0,false)))
set_option maxHeartbeats 8000000 in
set_option maxRecDepth 100000 in
theorem compact_Cut.calls (k : Nat) (A0 : Option Addr) (c0 : Nat) (l0 : List Int) (r1 : List Int) (r2 : Int) (r3 : Bool) (w : World) (hr0 : Kd.C (Kd.int .u8) w A0 l0.length l0) (hc0 : l0.length ≤ c0) (h : compact_Cut.f k l0 = some (r1,r2,r3)) :
 Calls Try.prog 62 #[.slice A0 l0.length c0] w fun e w'=>∃ v0_ : Value,e = .returned (.tuple #[v0_,.int .i64 r2,.bool r3]) ∧ Kd.R (Kd.int .u8) 5 w' w.heap.size (fun _=>True) v0_ r1 ∧ Below w.heap.size w w':=by
 have HR0:=am hr0;have HC0:=am hc0;clear hr0 hc0;have HB:=am (Below.refl w.heap.size w);have H : ((compact_Take.f k l0).bind fun bt315=>(if bt315.2.2 = true then (if bt315.1 > (wrap64 ((l0.length : Int) - bt315.2.1)) then (some (([] : List Int),0,false)) else (if 0 ≤ bt315.2.1 then (if bt315.2.1 ≤ (wrap64 (bt315.2.1 + bt315.1)) then (if (wrap64 (bt315.2.1 + bt315.1)) ≤ (l0.length : Int) then ((slices_Clone_byte_byte.f ((l0.take ((wrap64 (bt315.2.1 + bt315.1)) : Int).toNat).drop (bt315.2.1 : Int).toNat)).bind fun t319=>(some (t319,wrap64 (bt315.2.1 + bt315.1),true))) else (none)) else (none)) else (none))) else (some (([] : List Int),0,false)))) = some (r1,r2,r3):=h;clear h;replace H:=Option.bind_eq_some_iff.mp H;obtain ⟨⟨t315,t316,t317⟩,A20,H⟩:=H;replace H : (if t317 = true then (if t315 > (wrap64 ((l0.length : Int) - t316)) then (some (([] : List Int),0,false)) else (if 0 ≤ t316 then (if t316 ≤ (wrap64 (t316 + t315)) then (if (wrap64 (t316 + t315)) ≤ (l0.length : Int) then ((slices_Clone_byte_byte.f ((l0.take ((wrap64 (t316 + t315)) : Int).toNat).drop (t316 : Int).toNat)).bind fun t319=>(some (t319,wrap64 (t316 + t315),true))) else (none)) else (none)) else (none))) else (some (([] : List Int),0,false))) = some (r1,r2,r3):=H;have A2:=am A20;clear A20
 by_cases c3 : t317 = true
 rotate_left
 ·replace c3:=Bool.eq_false_iff.mpr c3;subst c3
  have H1 : (some (([] : List Int),0,false)) = some (r1,r2,r3):=by rw [if_neg (show ¬ (false = true) by decide)] at H;exact H
  clear H;have H:=H1;clear H1;simp only [Option.some.injEq,Prod.mk.injEq] at H;obtain ⟨rfl,rfl,rfl⟩:=H;go_enter Try.func62,Try.ntmps62
  go_wp2_with (first | ((with_reducible refine gate_callee (f:=61) rfl ?_);refine gl (some 9) Try.func61 #[.slice A0 l0.length c0] ?_;(with_reducible refine (compact_Take.calls k _ _ l0 t315 t316 false _ ?side1 ?side2 A2.out).mono ?_);(case side1=>repeat (first | exact HR0.out | (with_reducible refine Kd.C_alloc ?_ _) | (with_reducible refine Kd.C_drewN ?_ _) | (with_reducible refine Kd.C_drew ?_)));(case side2=>exact HC0.out);rintro e w13 ⟨rfl,hb⟩;refine ⟨_,rfl,?_⟩;have n0_:=am (below_step (by exact bq HB.out) hb);clear HB;have HB:=n0_;clear n0_;(try clear hb);(try clear hb2);(try clear hk);(try clear hi)))
  go_ret3
  exact ⟨_,by first | rfl | (simp [errW_none,errW_some] <;> rfl) | (simp [*,errW_none,errW_some] <;> rfl),by first | exact Kd.R_nil _ _ _ _ _ | exact Kd.N_nil _ _ _ _ _ | exact Kd.V_nil _ _ _ _ _ | exact Kd.Q_nil _ _ _ _ _ | exact Kd.S_nil _ _ _ _ _,by exact bq HB.out⟩
 subst c3
 have H1 : (if t315 > (wrap64 ((l0.length : Int) - t316)) then (some (([] : List Int),0,false)) else (if 0 ≤ t316 then (if t316 ≤ (wrap64 (t316 + t315)) then (if (wrap64 (t316 + t315)) ≤ (l0.length : Int) then ((slices_Clone_byte_byte.f ((l0.take ((wrap64 (t316 + t315)) : Int).toNat).drop (t316 : Int).toNat)).bind fun t319=>(some (t319,wrap64 (t316 + t315),true))) else (none)) else (none)) else (none))) = some (r1,r2,r3):=by rw [if_pos rfl] at H;exact H
 clear H;have H:=H1;clear H1
 by_cases c4 : t315 > (wrap64 ((l0.length : Int) - t316))
 ·rw [if_pos c4] at H;have c4b0 : decide ((wrap64 ((l0.length : Int) - t316)) < t315) = true:=decide_eq_true c4;clear c4;simp only [Option.some.injEq,Prod.mk.injEq] at H;obtain ⟨rfl,rfl,rfl⟩:=H;go_enter Try.func62,Try.ntmps62
  go_wp2_with (first | ((with_reducible refine gate_callee (f:=61) rfl ?_);refine gl (some 9) Try.func61 #[.slice A0 l0.length c0] ?_;(with_reducible refine (compact_Take.calls k _ _ l0 t315 t316 true _ ?side1 ?side2 A2.out).mono ?_);(case side1=>repeat (first | exact HR0.out | (with_reducible refine Kd.C_alloc ?_ _) | (with_reducible refine Kd.C_drewN ?_ _) | (with_reducible refine Kd.C_drew ?_)));(case side2=>exact HC0.out);rintro e w5 ⟨rfl,hb⟩;refine ⟨_,rfl,?_⟩;have n0_:=am (below_step (by exact bq HB.out) hb);clear HB;have HB:=n0_;clear n0_;(try clear hb);(try clear hb2);(try clear hk);(try clear hi)))
  go_ret3
  exact ⟨_,by first | rfl | (simp [errW_none,errW_some] <;> rfl) | (simp [*,errW_none,errW_some] <;> rfl),by first | exact Kd.R_nil _ _ _ _ _ | exact Kd.N_nil _ _ _ _ _ | exact Kd.V_nil _ _ _ _ _ | exact Kd.Q_nil _ _ _ _ _ | exact Kd.S_nil _ _ _ _ _,by exact bq HB.out⟩
 rw [if_neg c4] at H;have c4b0 : decide ((wrap64 ((l0.length : Int) - t316)) < t315) = false:=decide_eq_false c4;clear c4
 by_cases c6 : 0 ≤ t316
 rotate_left
 ·rw [if_neg c6] at H;exact absurd H (by simp)
 rw [if_pos c6] at H;have c6b0:=eq_true c6;have c6b1 : decide (0 ≤ t316) = true:=decide_eq_true c6;clear c6
 by_cases c7 : t316 ≤ (wrap64 (t316 + t315))
 rotate_left
 ·rw [if_neg c7] at H;exact absurd H (by simp)
 rw [if_pos c7] at H;have c7b0:=eq_true c7;have c7b1 : decide (t316 ≤ (wrap64 (t316 + t315))) = true:=decide_eq_true c7
 by_cases c8 : (wrap64 (t316 + t315)) ≤ (l0.length : Int)
 rotate_left
 ·rw [if_neg c8] at H;exact absurd H (by simp)
 rw [if_pos c8] at H;have c8b0:=eq_true c8;have c8b1 : decide ((wrap64 (t316 + t315)) ≤ (l0.length : Int)) = true:=decide_eq_true c8;replace H:=Option.bind_eq_some_iff.mp H;obtain ⟨t319,A90,H⟩:=H;replace H : (some (t319,wrap64 (t316 + t315),true)) = some (r1,r2,r3):=H;have A9:=am A90;clear A90;simp only [Option.some.injEq,Prod.mk.injEq] at H;obtain ⟨rfl,rfl,rfl⟩:=H;go_enter Try.func62,Try.ntmps62
 go_wp2_with (first | ((with_reducible refine gate_callee (f:=61) rfl ?_);refine gl (some 9) Try.func61 #[.slice A0 l0.length c0] ?_;(with_reducible refine (compact_Take.calls k _ _ l0 t315 t316 true _ ?side1 ?side2 A2.out).mono ?_);(case side1=>repeat (first | exact HR0.out | (with_reducible refine Kd.C_alloc ?_ _) | (with_reducible refine Kd.C_drewN ?_ _) | (with_reducible refine Kd.C_drew ?_)));(case side2=>exact HC0.out);rintro e w10 ⟨rfl,hb⟩;refine ⟨_,rfl,?_⟩;have n0_:=am (below_step (by exact bq HB.out) hb);clear HB;have HB:=n0_;clear n0_;(try clear hb);(try clear hb2);(try clear hk);(try clear hi);obtain ⟨i011,hi011,_,hsz11,_⟩:=info_parts info5;obtain ⟨A11,hcut11,hA11,hC11⟩:=print_mid_of (P:=Try.prog) (Value.int .u8) 0 38 5 .i64 .i64 Try.underlying38 hi011 hsz11 A0 c0 l0 t316 (wrap64 (t316 + t315)) (of_decide_eq_true (by first | (with_reducible assumption) | assumption)) (by first | omega | exact of_decide_eq_true (by first | (with_reducible assumption) | assumption)) (of_decide_eq_true (by first | (with_reducible assumption) | assumption)) HC0.out;have HR318:=am (Kd.C_of_reads (h1:=fun _=>rfl) (hA11 _ (Kd.reads_of_C HR0.out)));have HC318:=am hC11;clear hA11 hC11 hi011 hsz11) | ((with_reducible refine gate_callee (f:=59) rfl ?_);refine goesL_ (some 29) rfl rfl Try.func59 (by kernel_rfl) rfl #[.slice A11 ((l0.take ((wrap64 (t316 + t315)) : Int).toNat).drop (t316 : Int).toNat).length (c0 - t316.toNat)] rfl (by (try simp only [List.map_toArray,List.map_cons,List.map_nil]);first | done | (rw [show ((l0.take ((wrap64 (t316 + t315)) : Int).toNat).drop (t316 : Int).toNat).length = ((wrap64 (t316 + t315)).toNat - t316.toNat) from (by rw [List.length_drop,List.length_take];have h_ : ((wrap64 (t316 + t315)) : Int) ≤ (l0.length : Int):=of_decide_eq_true (by first | (with_reducible assumption) | assumption);omega)] <;> rfl) | rfl | (simp only [List.length_drop,List.length_take];rfl)) ?_;(with_reducible refine (slices_Clone_byte_byte.calls _ _ ((l0.take ((wrap64 (t316 + t315)) : Int).toNat).drop (t316 : Int).toNat) t319 _ ?side1 ?side2 A9.out).mono ?_);(case side1=>repeat (first | exact (Kd.C_below HR318.out HB.out) | (with_reducible refine Kd.C_alloc ?_ _) | (with_reducible refine Kd.C_drewN ?_ _) | (with_reducible refine Kd.C_drew ?_)));(case side2=>exact HC318.out);rintro e w12 ⟨v320,rfl,ho0,hb⟩;refine ⟨_,rfl,?_⟩;have n0_:=am (Kd.R_lower ho0 (below_size (by exact bq HB.out)));have n1_:=am (below_step (by exact bq HB.out) hb);clear HB;have HO321:=n0_;have HB:=n1_;clear n0_ n1_;(try clear hb);(try clear hb2);(try clear hk);(try clear hi);(try clear ho0)))
 go_ret3
 exact ⟨_,by first | rfl | (simp [errW_none,errW_some] <;> rfl) | (simp [*,errW_none,errW_some] <;> rfl),by exact dq HO321.out,by exact bq HB.out⟩
-- NOT PRINTED: function 45 (code_reader_row)
/-! ### code_reader_isWhole: function 46 -/
-- NOT PRINTED: function 52 (code_taken)
-- NOT PRINTED: function 25 (code_DecodeCall)
-- NOT PRINTED: function 44 (code_reader_raw)
-- NOT PRINTED: function 21 (code_DecodeExt)
end Go.Proofs.Ytilckocpgififaa.G
