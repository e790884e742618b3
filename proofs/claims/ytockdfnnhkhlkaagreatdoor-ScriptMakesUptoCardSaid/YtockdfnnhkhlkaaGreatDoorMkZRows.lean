import Derived.Test.YtockdfnnhkhlkaaGreatDoorMkHStep
import Derived.Test.YtockdfnnhkhlkaaGreatDoorMkGx2
import Derived.Test.YtockdfnnhkhlkaaGreatDoorMkGx7
import Derived.Laws.BitsLemmas
import Derived.IntWalk
import Derived.Test.YtockdfnnhkhlkaaGreatDoorMkHSeq
import Derived.Maps.AppendAt
-- Laid by this session's own program gprint.py over the kit's print (given functions are proved by hand).
namespace Go.Proofs.YtockdfnnhkhlkaaGreatDoor.G
open Go.RowKit Go.Proofs.YtockdfnnhkhlkaaGreatDoorW.PrintWords Go.Proofs.YtockdfnnhkhlkaaGreatDoorW.PrintLast Go.Proofs.YtockdfnnhkhlkaaGreatDoorW.PrintMore
attribute [local go_sem] max2_int min2_int max_two min_two max_three min_three max_four min_four   -- for this text's walks alone
set_option linter.unusedVariables false
set_option linter.unusedSimpArgs false

/-! ### compact_Take: function 151 -/
mutual
def compact_Take.j0 : Nat → List Int → Int → Option (Int × Int × Bool)
  | 0, _, _ => none
  | k + 1, x0, x3 => if x3 > 9 then (compact_Take.j1 k x0 x3 true) else (compact_Take.j1 k x0 x3 (decide (x3 > (x0.length : Int))))
def compact_Take.j1 : Nat → List Int → Int → Bool → Option (Int × Int × Bool)
  | 0, _, _, _ => none
  | k + 1, x0, x3, x31 => if x31 = true then (some (0, 0, false)) else (if 0 < (x0.length : Int) then (if (Int.tmod (rd x0 0) 4) = 3 then (if 1 ≤ x3 then (if x3 ≤ (x0.length : Int) then ((compact_number.f ((x0.take (x3 : Int).toNat).drop 1)).bind fun t107 => (if t107 < 0 then (some (0, 0, false)) else (if t107 > 4611686018427387904 then (some (0, 0, false)) else ((compact_Size.f k t107).bind fun t108 => (if t108 = x3 then (some (t107, x3, true)) else (some (0, 0, false))))))) else (none)) else (none)) else (if 0 ≤ x3 then (if x3 ≤ (x0.length : Int) then ((compact_number.f (x0.take (x3 : Int).toNat)).bind fun t110 => (if (wrap64 (Int.tdiv t110 4)) < 0 then (some (0, 0, false)) else (if (wrap64 (Int.tdiv t110 4)) > 4611686018427387904 then (some (0, 0, false)) else ((compact_Size.f k (wrap64 (Int.tdiv t110 4))).bind fun t111 => (if t111 = x3 then (some (wrap64 (Int.tdiv t110 4), x3, true)) else (some (0, 0, false))))))) else (none)) else (none))) else (none))
end
def compact_Take.f (k : Nat) (l0 : List Int) : Option (Int × Int × Bool) := if (l0.length : Int) = 0 then (some (0, 0, false)) else (if 0 < (l0.length : Int) then (if (Int.tmod (rd l0 0) 4) = 0 then (compact_Take.j0 k l0 1) else (if (Int.tmod (rd l0 0) 4) = 1 then (compact_Take.j0 k l0 2) else (if (Int.tmod (rd l0 0) 4) = 2 then (compact_Take.j0 k l0 4) else (compact_Take.j0 k l0 (5 + ((Int.tdiv (rd l0 0) 4) % 256)))))) else (none))
set_option maxHeartbeats 8000000 in
set_option maxRecDepth 100000 in
theorem compact_Take.calls (k : Nat) (A0 : Option Addr) (c0 : Nat) (l0 : List Int) (r1 : Int) (r2 : Int) (r3 : Bool) (w : World) (hr0 : Kd.C (Kd.int .u8) w A0 l0.length l0) (hc0 : l0.length ≤ c0) (h : compact_Take.f k l0 = some (r1, r2, r3)) :
    Calls Tryz.prog 151 #[.slice A0 l0.length c0] w fun e w' => e = .returned (.tuple #[.int .i64 r1, .int .i64 r2, .bool r3]) ∧ Below w.heap.size w w' := by
  have HR0 := Aside0.mk hr0
  have HC0 := Aside0.mk hc0
  clear hr0 hc0
  have HB := Aside0.mk (Below.refl w.heap.size w)
  have H : (if (l0.length : Int) = 0 then (some (0, 0, false)) else (if 0 < (l0.length : Int) then (if (Int.tmod (rd l0 0) 4) = 0 then (compact_Take.j0 k l0 1) else (if (Int.tmod (rd l0 0) 4) = 1 then (compact_Take.j0 k l0 2) else (if (Int.tmod (rd l0 0) 4) = 2 then (compact_Take.j0 k l0 4) else (compact_Take.j0 k l0 (5 + ((Int.tdiv (rd l0 0) 4) % 256)))))) else (none))) = some (r1, r2, r3) := h
  clear h
  by_cases c2 : (l0.length : Int) = 0
  · rw [if_pos c2] at H
    have c2b0 : ((l0.length : Int) == 0) = true := beq_iff_eq.mpr c2
    have c2b1 : ((l0.length : Int) != 0) = false := bne_eq_false_iff_eq.mpr c2
    clear c2
    simp only [Option.some.injEq, Prod.mk.injEq] at H
    obtain ⟨rfl, rfl, rfl⟩ := H
    go_enter Tryz.func151, Tryz.ntmps151
    go_wp2
    go_ret3
    exact ⟨by first | rfl | (simp [errW_none, errW_some] <;> rfl) | (simp [*, errW_none, errW_some] <;> rfl), by repeat (first | (with_reducible first | exact HB.out | apply below_alloc | apply pw_below_drewN | apply below_drew1) | exact HB.out)⟩
  · rw [if_neg c2] at H
    have c2b0 : ((l0.length : Int) == 0) = false := beq_eq_false_iff_ne.mpr c2
    have c2b1 : ((l0.length : Int) != 0) = true := bne_iff_ne.mpr c2
    have c2b2 : ¬ (l0 = []) := fun h_ => c2 (by rw [h_]; rfl)
    by_cases c3 : 0 < (l0.length : Int)
    · rw [if_pos c3] at H
      have c3b0 : decide (0 < (l0.length : Int)) = true := decide_eq_true c3
      have c3b1 : decide (0 < l0.length) = true := decide_eq_true (by omega)
      clear c3
      have HC4 := Aside0.mk H
      clear H
      have p103 : 0 ≤ (0 : Int) := (by omega)
      have q103 : 0 < (l0.length : Int) := of_decide_eq_true (by first | (with_reducible assumption) | assumption)
      obtain ⟨ad103, e103, hx103_0⟩ := Kd.at_int HR0.out 0 p103 q103
      cases e103
      have qi103 : (0 < l0.length) = True := eq_true (by omega)
      (try rw [show ((0 : Int)).toNat = 0 from rfl] at hx103_0)
      (try rw [Addr.add_zero'] at hx103_0)
      replace p103 := eq_true p103
      replace q103 := eq_true q103
      go_enter Tryz.func151, Tryz.ntmps151
      go_upto_block 0 with (fail)
      go_cut [3] (fun v3 wc => ∃ (kq : Nat) (x3_3 : Int), v3 = .int .i64 x3_3 ∧ Aside0 (compact_Take.j0 kq l0 x3_3 = some (r1, r2, r3)) ∧ Aside0 (kq ≤ k) ∧ Aside0 (Below w.heap.size w wc))
      case first =>
        have H := HC4.out
        clear HC4
        by_cases c5 : (Int.tmod (rd l0 0) 4) = 0
        · rw [if_pos c5] at H
          have c5b0 : ((Int.tmod (rd l0 0) 4) == 0) = true := beq_iff_eq.mpr c5
          have c5b1 : ((Int.tmod (rd l0 0) 4) != 0) = false := bne_eq_false_iff_eq.mpr c5
          clear c5
          (first | rw [c5b0] | (simp only [i64_w, i32_w]; rw [c5b0]) | skip)
          have H' := Aside0.mk H
          clear H
          go_wp2
          go_meet
          case rel => exact ⟨_, (1), (by first | rfl | (simp; done) | (simp [*]; done)), H', ⟨by first | omega | exact Nat.le_refl _⟩, ⟨by repeat (first | (with_reducible first | exact HB.out | apply below_alloc | apply pw_below_drewN | apply below_drew1) | exact HB.out)⟩⟩
        · rw [if_neg c5] at H
          have c5b0 : ((Int.tmod (rd l0 0) 4) == 0) = false := beq_eq_false_iff_ne.mpr c5
          have c5b1 : ((Int.tmod (rd l0 0) 4) != 0) = true := bne_iff_ne.mpr c5
          (first | rw [c5b0] | (simp only [i64_w, i32_w]; rw [c5b0]) | skip)
          by_cases c6 : (Int.tmod (rd l0 0) 4) = 1
          · rw [if_pos c6] at H
            have c6b0 : ((Int.tmod (rd l0 0) 4) == 1) = true := beq_iff_eq.mpr c6
            have c6b1 : ((Int.tmod (rd l0 0) 4) != 1) = false := bne_eq_false_iff_eq.mpr c6
            clear c6
            have H' := Aside0.mk H
            clear H
            go_wp2
            go_meet
            case rel => exact ⟨_, (2), (by first | rfl | (simp; done) | (simp [*]; done)), H', ⟨by first | omega | exact Nat.le_refl _⟩, ⟨by repeat (first | (with_reducible first | exact HB.out | apply below_alloc | apply pw_below_drewN | apply below_drew1) | exact HB.out)⟩⟩
          · rw [if_neg c6] at H
            have c6b0 : ((Int.tmod (rd l0 0) 4) == 1) = false := beq_eq_false_iff_ne.mpr c6
            have c6b1 : ((Int.tmod (rd l0 0) 4) != 1) = true := bne_iff_ne.mpr c6
            by_cases c7 : (Int.tmod (rd l0 0) 4) = 2
            · rw [if_pos c7] at H
              have c7b0 : ((Int.tmod (rd l0 0) 4) == 2) = true := beq_iff_eq.mpr c7
              have c7b1 : ((Int.tmod (rd l0 0) 4) != 2) = false := bne_eq_false_iff_eq.mpr c7
              clear c7
              have H' := Aside0.mk H
              clear H
              go_wp2
              go_meet
              case rel => exact ⟨_, (4), (by first | rfl | (simp; done) | (simp [*]; done)), H', ⟨by first | omega | exact Nat.le_refl _⟩, ⟨by repeat (first | (with_reducible first | exact HB.out | apply below_alloc | apply pw_below_drewN | apply below_drew1) | exact HB.out)⟩⟩
            · rw [if_neg c7] at H
              have c7b0 : ((Int.tmod (rd l0 0) 4) == 2) = false := beq_eq_false_iff_ne.mpr c7
              have c7b1 : ((Int.tmod (rd l0 0) 4) != 2) = true := bne_iff_ne.mpr c7
              have H' := Aside0.mk H
              clear H
              have p104 : 0 ≤ (0 : Int) := (by omega)
              have q104 : 0 < (l0.length : Int) := of_decide_eq_true (by first | (with_reducible assumption) | assumption)
              obtain ⟨ad104, e104, hx104_0⟩ := Kd.at_int HR0.out 0 p104 q104
              obtain rfl : ad103 = ad104 := (by injection e104)
              have qi104 : (0 < l0.length) = True := eq_true (by omega)
              (try rw [show ((0 : Int)).toNat = 0 from rfl] at hx104_0)
              (try rw [Addr.add_zero'] at hx104_0)
              replace hx104_0 := (HB.out.cell (World.block_lt_of_cell? w _ hx104_0)).trans hx104_0
              replace p104 := eq_true p104
              replace q104 := eq_true q104
              go_wp2
              go_meet
              case rel => exact ⟨_, (5 + ((Int.tdiv (rd l0 0) 4) % 256)), (by first | rfl | (simp; done) | (simp [*]; done)), H', ⟨by first | omega | exact Nat.le_refl _⟩, ⟨by repeat (first | (with_reducible first | exact HB.out | apply below_alloc | apply pw_below_drewN | apply below_drew1) | exact HB.out)⟩⟩
      case rest =>
        clear HC4
        try clear c1
        try clear p1
        try clear q1
        try clear hx1
        try clear qi1
        try clear c2
        try clear c2b0
        try clear c2b1
        try clear c2b2
        try clear p2
        try clear c3
        try clear c3b0
        try clear c3b1
        try clear c5
        try clear c5b0
        try clear c5b1
        try clear c6
        try clear c6b0
        try clear c6b1
        try clear c7
        try clear c7b0
        try clear c7b1
        try clear hx103_0
        try clear hx104_0
        try clear p103
        try clear p104
        try clear q103
        try clear q104
        obtain ⟨kq, x3_3, rfl, HA, HJ3, HB⟩ := hcut
        cases kq with
        | zero => exact absurd HA.out (by simp [compact_Take.j0])
        | succ kj3 =>
          have H := HA.out
          clear HA
          simp only [compact_Take.j0] at H
          have HC8 := Aside0.mk H
          clear H
          go_upto_region 11 with (fail)
          go_cut [31] (fun v31 wc => ∃ (kq : Nat) (x31_7 : Bool), v31 = .bool x31_7 ∧ Aside0 (compact_Take.j1 kq l0 x3_3 x31_7 = some (r1, r2, r3)) ∧ Aside0 (kq ≤ kj3) ∧ Aside0 (Below w.heap.size w wc))
          case first =>
            have H := HC8.out
            clear HC8
            by_cases c9 : x3_3 > 9
            · rw [if_pos c9] at H
              have c9b0 : decide (9 < x3_3) = true := decide_eq_true c9
              clear c9
              (first | rw [c9b0] | (simp only [i64_w, i32_w]; rw [c9b0]) | skip)
              have H' := Aside0.mk H
              clear H
              go_wp2
              go_meet
              case rel => exact ⟨_, (true), (by first | rfl | (simp; done) | (simp [*]; done)), H', ⟨by have := HJ3.out; first | omega | exact Nat.le_refl _⟩, ⟨by repeat (first | (with_reducible first | exact HB.out | apply below_alloc | apply pw_below_drewN | apply below_drew1) | exact HB.out)⟩⟩
            · rw [if_neg c9] at H
              have c9b0 : decide (9 < x3_3) = false := decide_eq_false c9
              clear c9
              (first | rw [c9b0] | (simp only [i64_w, i32_w]; rw [c9b0]) | skip)
              have H' := Aside0.mk H
              clear H
              go_wp2
              go_meet
              case rel => exact ⟨_, (decide (x3_3 > (l0.length : Int))), (by first | rfl | (simp; done) | (simp [*]; done)), H', ⟨by have := HJ3.out; first | omega | exact Nat.le_refl _⟩, ⟨by repeat (first | (with_reducible first | exact HB.out | apply below_alloc | apply pw_below_drewN | apply below_drew1) | exact HB.out)⟩⟩
          case rest =>
            clear HC8
            try clear c1
            try clear p1
            try clear q1
            try clear hx1
            try clear qi1
            try clear c2
            try clear c2b0
            try clear c2b1
            try clear c2b2
            try clear p2
            try clear c3
            try clear c3b0
            try clear c3b1
            try clear c5
            try clear c5b0
            try clear c5b1
            try clear c6
            try clear c6b0
            try clear c6b1
            try clear c7
            try clear c7b0
            try clear c7b1
            try clear c9
            try clear c9b0
            try clear hx103_0
            try clear hx104_0
            try clear p1
            try clear p103
            try clear p104
            try clear p2
            try clear q1
            try clear q103
            try clear q104
            obtain ⟨kq, x31_7, rfl, HA, HJ7, HB⟩ := hcut
            cases kq with
            | zero => exact absurd HA.out (by simp [compact_Take.j1])
            | succ kj7 =>
              have H := HA.out
              clear HA
              simp only [compact_Take.j1] at H
              by_cases c10 : x31_7 = true
              · subst c10
                have H1 : (some (0, 0, false)) = some (r1, r2, r3) := by rw [if_pos rfl] at H; exact H
                clear H
                have H := H1
                clear H1
                simp only [Option.some.injEq, Prod.mk.injEq] at H
                obtain ⟨rfl, rfl, rfl⟩ := H
                go_wp2
                go_ret3
                exact ⟨by first | rfl | (simp [errW_none, errW_some] <;> rfl) | (simp [*, errW_none, errW_some] <;> rfl), by repeat (first | (with_reducible first | exact HB.out | apply below_alloc | apply pw_below_drewN | apply below_drew1) | exact HB.out)⟩
              · replace c10 := Bool.eq_false_iff.mpr c10
                subst c10
                have H1 : (if 0 < (l0.length : Int) then (if (Int.tmod (rd l0 0) 4) = 3 then (if 1 ≤ x3_3 then (if x3_3 ≤ (l0.length : Int) then ((compact_number.f ((l0.take (x3_3 : Int).toNat).drop 1)).bind fun t107 => (if t107 < 0 then (some (0, 0, false)) else (if t107 > 4611686018427387904 then (some (0, 0, false)) else ((compact_Size.f kj7 t107).bind fun t108 => (if t108 = x3_3 then (some (t107, x3_3, true)) else (some (0, 0, false))))))) else (none)) else (none)) else (if 0 ≤ x3_3 then (if x3_3 ≤ (l0.length : Int) then ((compact_number.f (l0.take (x3_3 : Int).toNat)).bind fun t110 => (if (wrap64 (Int.tdiv t110 4)) < 0 then (some (0, 0, false)) else (if (wrap64 (Int.tdiv t110 4)) > 4611686018427387904 then (some (0, 0, false)) else ((compact_Size.f kj7 (wrap64 (Int.tdiv t110 4))).bind fun t111 => (if t111 = x3_3 then (some (wrap64 (Int.tdiv t110 4), x3_3, true)) else (some (0, 0, false))))))) else (none)) else (none))) else (none)) = some (r1, r2, r3) := by rw [if_neg (show ¬ (false = true) by decide)] at H; exact H
                clear H
                have H := H1
                clear H1
                by_cases c11 : 0 < (l0.length : Int)
                · rw [if_pos c11] at H
                  have c11b0 : decide (0 < (l0.length : Int)) = true := decide_eq_true c11
                  have c11b1 : decide (0 < l0.length) = true := decide_eq_true (by omega)
                  clear c11
                  by_cases c12 : (Int.tmod (rd l0 0) 4) = 3
                  · rw [if_pos c12] at H
                    have c12b0 : ((Int.tmod (rd l0 0) 4) == 3) = true := beq_iff_eq.mpr c12
                    have c12b1 : ((Int.tmod (rd l0 0) 4) != 3) = false := bne_eq_false_iff_eq.mpr c12
                    clear c12
                    by_cases c13 : 1 ≤ x3_3
                    · rw [if_pos c13] at H
                      have c13b0 := eq_true c13
                      have c13b1 : decide (1 ≤ x3_3) = true := decide_eq_true c13
                      clear c13
                      by_cases c14 : x3_3 ≤ (l0.length : Int)
                      · rw [if_pos c14] at H
                        have c14b0 := eq_true c14
                        have c14b1 : decide (x3_3 ≤ (l0.length : Int)) = true := decide_eq_true c14
                        clear c14
                        replace H := Option.bind_eq_some_iff.mp H
                        obtain ⟨t107, A150, H⟩ := H
                        replace H : (if t107 < 0 then (some (0, 0, false)) else (if t107 > 4611686018427387904 then (some (0, 0, false)) else ((compact_Size.f kj7 t107).bind fun t108 => (if t108 = x3_3 then (some (t107, x3_3, true)) else (some (0, 0, false)))))) = some (r1, r2, r3) := H
                        have A15 := Aside0.mk A150
                        clear A150
                        by_cases c16 : t107 < 0
                        · rw [if_pos c16] at H
                          have c16b0 : decide (t107 < 0) = true := decide_eq_true c16
                          clear c16
                          simp only [Option.some.injEq, Prod.mk.injEq] at H
                          obtain ⟨rfl, rfl, rfl⟩ := H
                          have p105 : 0 ≤ (0 : Int) := (by omega)
                          have q105 : 0 < (l0.length : Int) := of_decide_eq_true (by first | (with_reducible assumption) | assumption)
                          obtain ⟨ad105, e105, hx105_0⟩ := Kd.at_int HR0.out 0 p105 q105
                          obtain rfl : ad103 = ad105 := (by injection e105)
                          have qi105 : (0 < l0.length) = True := eq_true (by omega)
                          (try rw [show ((0 : Int)).toNat = 0 from rfl] at hx105_0)
                          (try rw [Addr.add_zero'] at hx105_0)
                          replace hx105_0 := (HB.out.cell (World.block_lt_of_cell? w _ hx105_0)).trans hx105_0
                          replace p105 := eq_true p105
                          replace q105 := eq_true q105
                          obtain ⟨i017, hi017, _, hsz17, _⟩ := info_parts info5
                          obtain ⟨A17, hcut17, hA17, hC17⟩ := print_mid_of (P := Tryz.prog) (Value.int .u8) 0 50 5 .i64 .i64 Tryz.underlying50 hi017 hsz17 (some ad103) c0 l0 1 x3_3 (by omega) (by first | omega | exact of_decide_eq_true (by first | (with_reducible assumption) | assumption)) (of_decide_eq_true (by first | (with_reducible assumption) | assumption)) HC0.out
                          have HR106 := Aside0.mk (Kd.C_of_reads (h1 := fun _ => rfl) (hA17 _ (Kd.reads_of_C HR0.out)))
                          have HC106 := Aside0.mk hC17
                          clear hA17 hC17 hi017 hsz17
                          go_wp2_with (first | ((with_reducible refine gate_callee (f := 198) rfl ?_); refine goesL_ (some 40) rfl rfl Tryz.func198 (by kernel_rfl) rfl #[.slice A17 ((l0.take (x3_3 : Int).toNat).drop 1).length (c0 - 1)] rfl (by (try simp only [List.map_toArray, List.map_cons, List.map_nil]); first | done | (rw [show ((l0.take (x3_3 : Int).toNat).drop 1).length = (x3_3.toNat - 1) from (by rw [List.length_drop, List.length_take]; have h_ : (x3_3 : Int) ≤ (l0.length : Int) := of_decide_eq_true (by first | (with_reducible assumption) | assumption); omega)] <;> rfl) | rfl | (simp only [List.length_drop, List.length_take]; rfl)) ?_; (with_reducible refine (compact_number.calls _ _ ((l0.take (x3_3 : Int).toNat).drop 1) t107 _ ?side1 ?side2 A15.out).mono ?_); (case side1 => repeat (first | exact (Kd.C_below HR106.out HB.out) | (with_reducible refine Kd.C_alloc ?_ _) | (with_reducible refine Kd.C_drewN ?_ _) | (with_reducible refine Kd.C_drew ?_))); (case side2 => exact HC106.out); rintro e w18 ⟨rfl, hb⟩; refine ⟨_, rfl, ?_⟩; have n0_ := Aside0.mk (below_step (by repeat (first | (with_reducible first | exact HB.out | apply below_alloc | apply pw_below_drewN | apply below_drew1) | exact HB.out)) hb); clear HB; have HB := n0_; clear n0_; (try clear hb); (try clear hb2); (try clear hk); (try clear hi)))
                          go_ret3
                          exact ⟨by first | rfl | (simp [errW_none, errW_some] <;> rfl) | (simp [*, errW_none, errW_some] <;> rfl), by repeat (first | (with_reducible first | exact HB.out | apply below_alloc | apply pw_below_drewN | apply below_drew1) | exact HB.out)⟩
                        · rw [if_neg c16] at H
                          have c16b0 : decide (t107 < 0) = false := decide_eq_false c16
                          clear c16
                          by_cases c19 : t107 > 4611686018427387904
                          · rw [if_pos c19] at H
                            have c19b0 : decide (4611686018427387904 < t107) = true := decide_eq_true c19
                            clear c19
                            simp only [Option.some.injEq, Prod.mk.injEq] at H
                            obtain ⟨rfl, rfl, rfl⟩ := H
                            have p105 : 0 ≤ (0 : Int) := (by omega)
                            have q105 : 0 < (l0.length : Int) := of_decide_eq_true (by first | (with_reducible assumption) | assumption)
                            obtain ⟨ad105, e105, hx105_0⟩ := Kd.at_int HR0.out 0 p105 q105
                            obtain rfl : ad103 = ad105 := (by injection e105)
                            have qi105 : (0 < l0.length) = True := eq_true (by omega)
                            (try rw [show ((0 : Int)).toNat = 0 from rfl] at hx105_0)
                            (try rw [Addr.add_zero'] at hx105_0)
                            replace hx105_0 := (HB.out.cell (World.block_lt_of_cell? w _ hx105_0)).trans hx105_0
                            replace p105 := eq_true p105
                            replace q105 := eq_true q105
                            obtain ⟨i020, hi020, _, hsz20, _⟩ := info_parts info5
                            obtain ⟨A20, hcut20, hA20, hC20⟩ := print_mid_of (P := Tryz.prog) (Value.int .u8) 0 50 5 .i64 .i64 Tryz.underlying50 hi020 hsz20 (some ad103) c0 l0 1 x3_3 (by omega) (by first | omega | exact of_decide_eq_true (by first | (with_reducible assumption) | assumption)) (of_decide_eq_true (by first | (with_reducible assumption) | assumption)) HC0.out
                            have HR106 := Aside0.mk (Kd.C_of_reads (h1 := fun _ => rfl) (hA20 _ (Kd.reads_of_C HR0.out)))
                            have HC106 := Aside0.mk hC20
                            clear hA20 hC20 hi020 hsz20
                            go_wp2_with (first | ((with_reducible refine gate_callee (f := 198) rfl ?_); refine goesL_ (some 40) rfl rfl Tryz.func198 (by kernel_rfl) rfl #[.slice A20 ((l0.take (x3_3 : Int).toNat).drop 1).length (c0 - 1)] rfl (by (try simp only [List.map_toArray, List.map_cons, List.map_nil]); first | done | (rw [show ((l0.take (x3_3 : Int).toNat).drop 1).length = (x3_3.toNat - 1) from (by rw [List.length_drop, List.length_take]; have h_ : (x3_3 : Int) ≤ (l0.length : Int) := of_decide_eq_true (by first | (with_reducible assumption) | assumption); omega)] <;> rfl) | rfl | (simp only [List.length_drop, List.length_take]; rfl)) ?_; (with_reducible refine (compact_number.calls _ _ ((l0.take (x3_3 : Int).toNat).drop 1) t107 _ ?side1 ?side2 A15.out).mono ?_); (case side1 => repeat (first | exact (Kd.C_below HR106.out HB.out) | (with_reducible refine Kd.C_alloc ?_ _) | (with_reducible refine Kd.C_drewN ?_ _) | (with_reducible refine Kd.C_drew ?_))); (case side2 => exact HC106.out); rintro e w21 ⟨rfl, hb⟩; refine ⟨_, rfl, ?_⟩; have n0_ := Aside0.mk (below_step (by repeat (first | (with_reducible first | exact HB.out | apply below_alloc | apply pw_below_drewN | apply below_drew1) | exact HB.out)) hb); clear HB; have HB := n0_; clear n0_; (try clear hb); (try clear hb2); (try clear hk); (try clear hi)))
                            go_ret3
                            exact ⟨by first | rfl | (simp [errW_none, errW_some] <;> rfl) | (simp [*, errW_none, errW_some] <;> rfl), by repeat (first | (with_reducible first | exact HB.out | apply below_alloc | apply pw_below_drewN | apply below_drew1) | exact HB.out)⟩
                          · rw [if_neg c19] at H
                            have c19b0 : decide (4611686018427387904 < t107) = false := decide_eq_false c19
                            clear c19
                            replace H := Option.bind_eq_some_iff.mp H
                            obtain ⟨t108, A220, H⟩ := H
                            replace H : (if t108 = x3_3 then (some (t107, x3_3, true)) else (some (0, 0, false))) = some (r1, r2, r3) := H
                            have A22 := Aside0.mk A220
                            clear A220
                            by_cases c23 : t108 = x3_3
                            · rw [if_pos c23] at H
                              have c23b0 : (t108 == x3_3) = true := beq_iff_eq.mpr c23
                              have c23b1 : (t108 != x3_3) = false := bne_eq_false_iff_eq.mpr c23
                              clear c23
                              simp only [Option.some.injEq, Prod.mk.injEq] at H
                              obtain ⟨rfl, rfl, rfl⟩ := H
                              have p105 : 0 ≤ (0 : Int) := (by omega)
                              have q105 : 0 < (l0.length : Int) := of_decide_eq_true (by first | (with_reducible assumption) | assumption)
                              obtain ⟨ad105, e105, hx105_0⟩ := Kd.at_int HR0.out 0 p105 q105
                              obtain rfl : ad103 = ad105 := (by injection e105)
                              have qi105 : (0 < l0.length) = True := eq_true (by omega)
                              (try rw [show ((0 : Int)).toNat = 0 from rfl] at hx105_0)
                              (try rw [Addr.add_zero'] at hx105_0)
                              replace hx105_0 := (HB.out.cell (World.block_lt_of_cell? w _ hx105_0)).trans hx105_0
                              replace p105 := eq_true p105
                              replace q105 := eq_true q105
                              obtain ⟨i024, hi024, _, hsz24, _⟩ := info_parts info5
                              obtain ⟨A24, hcut24, hA24, hC24⟩ := print_mid_of (P := Tryz.prog) (Value.int .u8) 0 50 5 .i64 .i64 Tryz.underlying50 hi024 hsz24 (some ad103) c0 l0 1 x3_3 (by omega) (by first | omega | exact of_decide_eq_true (by first | (with_reducible assumption) | assumption)) (of_decide_eq_true (by first | (with_reducible assumption) | assumption)) HC0.out
                              have HR106 := Aside0.mk (Kd.C_of_reads (h1 := fun _ => rfl) (hA24 _ (Kd.reads_of_C HR0.out)))
                              have HC106 := Aside0.mk hC24
                              clear hA24 hC24 hi024 hsz24
                              go_wp2_with (first | ((with_reducible refine gate_callee (f := 198) rfl ?_); refine goesL_ (some 40) rfl rfl Tryz.func198 (by kernel_rfl) rfl #[.slice A24 ((l0.take (x3_3 : Int).toNat).drop 1).length (c0 - 1)] rfl (by (try simp only [List.map_toArray, List.map_cons, List.map_nil]); first | done | (rw [show ((l0.take (x3_3 : Int).toNat).drop 1).length = (x3_3.toNat - 1) from (by rw [List.length_drop, List.length_take]; have h_ : (x3_3 : Int) ≤ (l0.length : Int) := of_decide_eq_true (by first | (with_reducible assumption) | assumption); omega)] <;> rfl) | rfl | (simp only [List.length_drop, List.length_take]; rfl)) ?_; (with_reducible refine (compact_number.calls _ _ ((l0.take (x3_3 : Int).toNat).drop 1) t107 _ ?side1 ?side2 A15.out).mono ?_); (case side1 => repeat (first | exact (Kd.C_below HR106.out HB.out) | (with_reducible refine Kd.C_alloc ?_ _) | (with_reducible refine Kd.C_drewN ?_ _) | (with_reducible refine Kd.C_drew ?_))); (case side2 => exact HC106.out); rintro e w25 ⟨rfl, hb⟩; refine ⟨_, rfl, ?_⟩; have n0_ := Aside0.mk (below_step (by repeat (first | (with_reducible first | exact HB.out | apply below_alloc | apply pw_below_drewN | apply below_drew1) | exact HB.out)) hb); clear HB; have HB := n0_; clear n0_; (try clear hb); (try clear hb2); (try clear hk); (try clear hi)) | (go_at_call 53; (with_reducible refine (compact_Size.calls kj7 t107 t108 _ A22.out).mono ?_); rintro e w26 ⟨rfl, hb⟩; have n0_ := Aside0.mk (below_step (by repeat (first | (with_reducible first | exact HB.out | apply below_alloc | apply pw_below_drewN | apply below_drew1) | exact HB.out)) hb); clear HB; have HB := n0_; clear n0_; (try clear hb); (try clear hb2); (try clear hk); (try clear hi)))
                              go_ret3
                              exact ⟨by first | rfl | (simp [errW_none, errW_some] <;> rfl) | (simp [*, errW_none, errW_some] <;> rfl), by repeat (first | (with_reducible first | exact HB.out | apply below_alloc | apply pw_below_drewN | apply below_drew1) | exact HB.out)⟩
                            · rw [if_neg c23] at H
                              have c23b0 : (t108 == x3_3) = false := beq_eq_false_iff_ne.mpr c23
                              have c23b1 : (t108 != x3_3) = true := bne_iff_ne.mpr c23
                              simp only [Option.some.injEq, Prod.mk.injEq] at H
                              obtain ⟨rfl, rfl, rfl⟩ := H
                              have p105 : 0 ≤ (0 : Int) := (by omega)
                              have q105 : 0 < (l0.length : Int) := of_decide_eq_true (by first | (with_reducible assumption) | assumption)
                              obtain ⟨ad105, e105, hx105_0⟩ := Kd.at_int HR0.out 0 p105 q105
                              obtain rfl : ad103 = ad105 := (by injection e105)
                              have qi105 : (0 < l0.length) = True := eq_true (by omega)
                              (try rw [show ((0 : Int)).toNat = 0 from rfl] at hx105_0)
                              (try rw [Addr.add_zero'] at hx105_0)
                              replace hx105_0 := (HB.out.cell (World.block_lt_of_cell? w _ hx105_0)).trans hx105_0
                              replace p105 := eq_true p105
                              replace q105 := eq_true q105
                              obtain ⟨i027, hi027, _, hsz27, _⟩ := info_parts info5
                              obtain ⟨A27, hcut27, hA27, hC27⟩ := print_mid_of (P := Tryz.prog) (Value.int .u8) 0 50 5 .i64 .i64 Tryz.underlying50 hi027 hsz27 (some ad103) c0 l0 1 x3_3 (by omega) (by first | omega | exact of_decide_eq_true (by first | (with_reducible assumption) | assumption)) (of_decide_eq_true (by first | (with_reducible assumption) | assumption)) HC0.out
                              have HR106 := Aside0.mk (Kd.C_of_reads (h1 := fun _ => rfl) (hA27 _ (Kd.reads_of_C HR0.out)))
                              have HC106 := Aside0.mk hC27
                              clear hA27 hC27 hi027 hsz27
                              go_wp2_with (first | ((with_reducible refine gate_callee (f := 198) rfl ?_); refine goesL_ (some 40) rfl rfl Tryz.func198 (by kernel_rfl) rfl #[.slice A27 ((l0.take (x3_3 : Int).toNat).drop 1).length (c0 - 1)] rfl (by (try simp only [List.map_toArray, List.map_cons, List.map_nil]); first | done | (rw [show ((l0.take (x3_3 : Int).toNat).drop 1).length = (x3_3.toNat - 1) from (by rw [List.length_drop, List.length_take]; have h_ : (x3_3 : Int) ≤ (l0.length : Int) := of_decide_eq_true (by first | (with_reducible assumption) | assumption); omega)] <;> rfl) | rfl | (simp only [List.length_drop, List.length_take]; rfl)) ?_; (with_reducible refine (compact_number.calls _ _ ((l0.take (x3_3 : Int).toNat).drop 1) t107 _ ?side1 ?side2 A15.out).mono ?_); (case side1 => repeat (first | exact (Kd.C_below HR106.out HB.out) | (with_reducible refine Kd.C_alloc ?_ _) | (with_reducible refine Kd.C_drewN ?_ _) | (with_reducible refine Kd.C_drew ?_))); (case side2 => exact HC106.out); rintro e w28 ⟨rfl, hb⟩; refine ⟨_, rfl, ?_⟩; have n0_ := Aside0.mk (below_step (by repeat (first | (with_reducible first | exact HB.out | apply below_alloc | apply pw_below_drewN | apply below_drew1) | exact HB.out)) hb); clear HB; have HB := n0_; clear n0_; (try clear hb); (try clear hb2); (try clear hk); (try clear hi)) | (go_at_call 53; (with_reducible refine (compact_Size.calls kj7 t107 t108 _ A22.out).mono ?_); rintro e w29 ⟨rfl, hb⟩; have n0_ := Aside0.mk (below_step (by repeat (first | (with_reducible first | exact HB.out | apply below_alloc | apply pw_below_drewN | apply below_drew1) | exact HB.out)) hb); clear HB; have HB := n0_; clear n0_; (try clear hb); (try clear hb2); (try clear hk); (try clear hi)))
                              go_ret3
                              exact ⟨by first | rfl | (simp [errW_none, errW_some] <;> rfl) | (simp [*, errW_none, errW_some] <;> rfl), by repeat (first | (with_reducible first | exact HB.out | apply below_alloc | apply pw_below_drewN | apply below_drew1) | exact HB.out)⟩
                      · rw [if_neg c14] at H
                        exact absurd H (by simp)
                    · rw [if_neg c13] at H
                      exact absurd H (by simp)
                  · rw [if_neg c12] at H
                    have c12b0 : ((Int.tmod (rd l0 0) 4) == 3) = false := beq_eq_false_iff_ne.mpr c12
                    have c12b1 : ((Int.tmod (rd l0 0) 4) != 3) = true := bne_iff_ne.mpr c12
                    by_cases c30 : 0 ≤ x3_3
                    · rw [if_pos c30] at H
                      have c30b0 := eq_true c30
                      have c30b1 : decide (0 ≤ x3_3) = true := decide_eq_true c30
                      clear c30
                      by_cases c31 : x3_3 ≤ (l0.length : Int)
                      · rw [if_pos c31] at H
                        have c31b0 := eq_true c31
                        have c31b1 : decide (x3_3 ≤ (l0.length : Int)) = true := decide_eq_true c31
                        clear c31
                        replace H := Option.bind_eq_some_iff.mp H
                        obtain ⟨t110, A320, H⟩ := H
                        replace H : (if (wrap64 (Int.tdiv t110 4)) < 0 then (some (0, 0, false)) else (if (wrap64 (Int.tdiv t110 4)) > 4611686018427387904 then (some (0, 0, false)) else ((compact_Size.f kj7 (wrap64 (Int.tdiv t110 4))).bind fun t111 => (if t111 = x3_3 then (some (wrap64 (Int.tdiv t110 4), x3_3, true)) else (some (0, 0, false)))))) = some (r1, r2, r3) := H
                        have A32 := Aside0.mk A320
                        clear A320
                        by_cases c33 : (wrap64 (Int.tdiv t110 4)) < 0
                        · rw [if_pos c33] at H
                          have c33b0 : decide ((wrap64 (Int.tdiv t110 4)) < 0) = true := decide_eq_true c33
                          clear c33
                          simp only [Option.some.injEq, Prod.mk.injEq] at H
                          obtain ⟨rfl, rfl, rfl⟩ := H
                          have p105 : 0 ≤ (0 : Int) := (by omega)
                          have q105 : 0 < (l0.length : Int) := of_decide_eq_true (by first | (with_reducible assumption) | assumption)
                          obtain ⟨ad105, e105, hx105_0⟩ := Kd.at_int HR0.out 0 p105 q105
                          obtain rfl : ad103 = ad105 := (by injection e105)
                          have qi105 : (0 < l0.length) = True := eq_true (by omega)
                          (try rw [show ((0 : Int)).toNat = 0 from rfl] at hx105_0)
                          (try rw [Addr.add_zero'] at hx105_0)
                          replace hx105_0 := (HB.out.cell (World.block_lt_of_cell? w _ hx105_0)).trans hx105_0
                          replace p105 := eq_true p105
                          replace q105 := eq_true q105
                          obtain ⟨i034, hi034, _, hsz34, _⟩ := info_parts info5
                          obtain ⟨hcut34, hA34, hC34⟩ := print_take_of (P := Tryz.prog) (Value.int .u8) 0 50 5 .i64 Tryz.underlying50 hi034 hsz34 (some ad103) c0 l0 x3_3 (of_decide_eq_true (by first | (with_reducible assumption) | assumption)) (of_decide_eq_true (by first | (with_reducible assumption) | assumption)) HC0.out
                          have HR109 := Aside0.mk (Kd.C_of_reads (h1 := fun _ => rfl) (hA34 _ (Kd.reads_of_C HR0.out)))
                          have HC109 := Aside0.mk hC34
                          clear hA34 hC34 hi034 hsz34
                          go_wp2_with (first | ((with_reducible refine gate_callee (f := 198) rfl ?_); refine goesL_ (some 44) rfl rfl Tryz.func198 (by kernel_rfl) rfl #[.slice (some ad103) (l0.take (x3_3 : Int).toNat).length c0] rfl (by (try simp only [List.map_toArray, List.map_cons, List.map_nil]); first | done | (rw [show (l0.take (x3_3 : Int).toNat).length = x3_3.toNat from (by rw [List.length_take]; have h_ : (x3_3 : Int) ≤ (l0.length : Int) := of_decide_eq_true (by first | (with_reducible assumption) | assumption); omega)] <;> rfl) | rfl | (simp only [List.length_drop, List.length_take]; rfl)) ?_; (with_reducible refine (compact_number.calls _ _ (l0.take (x3_3 : Int).toNat) t110 _ ?side1 ?side2 A32.out).mono ?_); (case side1 => repeat (first | exact (Kd.C_below HR109.out HB.out) | (with_reducible refine Kd.C_alloc ?_ _) | (with_reducible refine Kd.C_drewN ?_ _) | (with_reducible refine Kd.C_drew ?_))); (case side2 => exact HC109.out); rintro e w35 ⟨rfl, hb⟩; refine ⟨_, rfl, ?_⟩; have n0_ := Aside0.mk (below_step (by repeat (first | (with_reducible first | exact HB.out | apply below_alloc | apply pw_below_drewN | apply below_drew1) | exact HB.out)) hb); clear HB; have HB := n0_; clear n0_; (try clear hb); (try clear hb2); (try clear hk); (try clear hi)))
                          go_ret3
                          exact ⟨by first | rfl | (simp [errW_none, errW_some] <;> rfl) | (simp [*, errW_none, errW_some] <;> rfl), by repeat (first | (with_reducible first | exact HB.out | apply below_alloc | apply pw_below_drewN | apply below_drew1) | exact HB.out)⟩
                        · rw [if_neg c33] at H
                          have c33b0 : decide ((wrap64 (Int.tdiv t110 4)) < 0) = false := decide_eq_false c33
                          clear c33
                          by_cases c36 : (wrap64 (Int.tdiv t110 4)) > 4611686018427387904
                          · rw [if_pos c36] at H
                            have c36b0 : decide (4611686018427387904 < (wrap64 (Int.tdiv t110 4))) = true := decide_eq_true c36
                            clear c36
                            simp only [Option.some.injEq, Prod.mk.injEq] at H
                            obtain ⟨rfl, rfl, rfl⟩ := H
                            have p105 : 0 ≤ (0 : Int) := (by omega)
                            have q105 : 0 < (l0.length : Int) := of_decide_eq_true (by first | (with_reducible assumption) | assumption)
                            obtain ⟨ad105, e105, hx105_0⟩ := Kd.at_int HR0.out 0 p105 q105
                            obtain rfl : ad103 = ad105 := (by injection e105)
                            have qi105 : (0 < l0.length) = True := eq_true (by omega)
                            (try rw [show ((0 : Int)).toNat = 0 from rfl] at hx105_0)
                            (try rw [Addr.add_zero'] at hx105_0)
                            replace hx105_0 := (HB.out.cell (World.block_lt_of_cell? w _ hx105_0)).trans hx105_0
                            replace p105 := eq_true p105
                            replace q105 := eq_true q105
                            obtain ⟨i037, hi037, _, hsz37, _⟩ := info_parts info5
                            obtain ⟨hcut37, hA37, hC37⟩ := print_take_of (P := Tryz.prog) (Value.int .u8) 0 50 5 .i64 Tryz.underlying50 hi037 hsz37 (some ad103) c0 l0 x3_3 (of_decide_eq_true (by first | (with_reducible assumption) | assumption)) (of_decide_eq_true (by first | (with_reducible assumption) | assumption)) HC0.out
                            have HR109 := Aside0.mk (Kd.C_of_reads (h1 := fun _ => rfl) (hA37 _ (Kd.reads_of_C HR0.out)))
                            have HC109 := Aside0.mk hC37
                            clear hA37 hC37 hi037 hsz37
                            go_wp2_with (first | ((with_reducible refine gate_callee (f := 198) rfl ?_); refine goesL_ (some 44) rfl rfl Tryz.func198 (by kernel_rfl) rfl #[.slice (some ad103) (l0.take (x3_3 : Int).toNat).length c0] rfl (by (try simp only [List.map_toArray, List.map_cons, List.map_nil]); first | done | (rw [show (l0.take (x3_3 : Int).toNat).length = x3_3.toNat from (by rw [List.length_take]; have h_ : (x3_3 : Int) ≤ (l0.length : Int) := of_decide_eq_true (by first | (with_reducible assumption) | assumption); omega)] <;> rfl) | rfl | (simp only [List.length_drop, List.length_take]; rfl)) ?_; (with_reducible refine (compact_number.calls _ _ (l0.take (x3_3 : Int).toNat) t110 _ ?side1 ?side2 A32.out).mono ?_); (case side1 => repeat (first | exact (Kd.C_below HR109.out HB.out) | (with_reducible refine Kd.C_alloc ?_ _) | (with_reducible refine Kd.C_drewN ?_ _) | (with_reducible refine Kd.C_drew ?_))); (case side2 => exact HC109.out); rintro e w38 ⟨rfl, hb⟩; refine ⟨_, rfl, ?_⟩; have n0_ := Aside0.mk (below_step (by repeat (first | (with_reducible first | exact HB.out | apply below_alloc | apply pw_below_drewN | apply below_drew1) | exact HB.out)) hb); clear HB; have HB := n0_; clear n0_; (try clear hb); (try clear hb2); (try clear hk); (try clear hi)))
                            go_ret3
                            exact ⟨by first | rfl | (simp [errW_none, errW_some] <;> rfl) | (simp [*, errW_none, errW_some] <;> rfl), by repeat (first | (with_reducible first | exact HB.out | apply below_alloc | apply pw_below_drewN | apply below_drew1) | exact HB.out)⟩
                          · rw [if_neg c36] at H
                            have c36b0 : decide (4611686018427387904 < (wrap64 (Int.tdiv t110 4))) = false := decide_eq_false c36
                            clear c36
                            replace H := Option.bind_eq_some_iff.mp H
                            obtain ⟨t111, A390, H⟩ := H
                            replace H : (if t111 = x3_3 then (some (wrap64 (Int.tdiv t110 4), x3_3, true)) else (some (0, 0, false))) = some (r1, r2, r3) := H
                            have A39 := Aside0.mk A390
                            clear A390
                            by_cases c40 : t111 = x3_3
                            · rw [if_pos c40] at H
                              have c40b0 : (t111 == x3_3) = true := beq_iff_eq.mpr c40
                              have c40b1 : (t111 != x3_3) = false := bne_eq_false_iff_eq.mpr c40
                              clear c40
                              simp only [Option.some.injEq, Prod.mk.injEq] at H
                              obtain ⟨rfl, rfl, rfl⟩ := H
                              have p105 : 0 ≤ (0 : Int) := (by omega)
                              have q105 : 0 < (l0.length : Int) := of_decide_eq_true (by first | (with_reducible assumption) | assumption)
                              obtain ⟨ad105, e105, hx105_0⟩ := Kd.at_int HR0.out 0 p105 q105
                              obtain rfl : ad103 = ad105 := (by injection e105)
                              have qi105 : (0 < l0.length) = True := eq_true (by omega)
                              (try rw [show ((0 : Int)).toNat = 0 from rfl] at hx105_0)
                              (try rw [Addr.add_zero'] at hx105_0)
                              replace hx105_0 := (HB.out.cell (World.block_lt_of_cell? w _ hx105_0)).trans hx105_0
                              replace p105 := eq_true p105
                              replace q105 := eq_true q105
                              obtain ⟨i041, hi041, _, hsz41, _⟩ := info_parts info5
                              obtain ⟨hcut41, hA41, hC41⟩ := print_take_of (P := Tryz.prog) (Value.int .u8) 0 50 5 .i64 Tryz.underlying50 hi041 hsz41 (some ad103) c0 l0 x3_3 (of_decide_eq_true (by first | (with_reducible assumption) | assumption)) (of_decide_eq_true (by first | (with_reducible assumption) | assumption)) HC0.out
                              have HR109 := Aside0.mk (Kd.C_of_reads (h1 := fun _ => rfl) (hA41 _ (Kd.reads_of_C HR0.out)))
                              have HC109 := Aside0.mk hC41
                              clear hA41 hC41 hi041 hsz41
                              go_wp2_with (first | ((with_reducible refine gate_callee (f := 198) rfl ?_); refine goesL_ (some 44) rfl rfl Tryz.func198 (by kernel_rfl) rfl #[.slice (some ad103) (l0.take (x3_3 : Int).toNat).length c0] rfl (by (try simp only [List.map_toArray, List.map_cons, List.map_nil]); first | done | (rw [show (l0.take (x3_3 : Int).toNat).length = x3_3.toNat from (by rw [List.length_take]; have h_ : (x3_3 : Int) ≤ (l0.length : Int) := of_decide_eq_true (by first | (with_reducible assumption) | assumption); omega)] <;> rfl) | rfl | (simp only [List.length_drop, List.length_take]; rfl)) ?_; (with_reducible refine (compact_number.calls _ _ (l0.take (x3_3 : Int).toNat) t110 _ ?side1 ?side2 A32.out).mono ?_); (case side1 => repeat (first | exact (Kd.C_below HR109.out HB.out) | (with_reducible refine Kd.C_alloc ?_ _) | (with_reducible refine Kd.C_drewN ?_ _) | (with_reducible refine Kd.C_drew ?_))); (case side2 => exact HC109.out); rintro e w42 ⟨rfl, hb⟩; refine ⟨_, rfl, ?_⟩; have n0_ := Aside0.mk (below_step (by repeat (first | (with_reducible first | exact HB.out | apply below_alloc | apply pw_below_drewN | apply below_drew1) | exact HB.out)) hb); clear HB; have HB := n0_; clear n0_; (try clear hb); (try clear hb2); (try clear hk); (try clear hi)) | (go_at_call 53; (with_reducible refine (compact_Size.calls kj7 (wrap64 (Int.tdiv t110 4)) t111 _ A39.out).mono ?_); rintro e w43 ⟨rfl, hb⟩; have n0_ := Aside0.mk (below_step (by repeat (first | (with_reducible first | exact HB.out | apply below_alloc | apply pw_below_drewN | apply below_drew1) | exact HB.out)) hb); clear HB; have HB := n0_; clear n0_; (try clear hb); (try clear hb2); (try clear hk); (try clear hi)))
                              go_ret3
                              exact ⟨by first | rfl | (simp [errW_none, errW_some] <;> rfl) | (simp [*, errW_none, errW_some] <;> rfl), by repeat (first | (with_reducible first | exact HB.out | apply below_alloc | apply pw_below_drewN | apply below_drew1) | exact HB.out)⟩
                            · rw [if_neg c40] at H
                              have c40b0 : (t111 == x3_3) = false := beq_eq_false_iff_ne.mpr c40
                              have c40b1 : (t111 != x3_3) = true := bne_iff_ne.mpr c40
                              simp only [Option.some.injEq, Prod.mk.injEq] at H
                              obtain ⟨rfl, rfl, rfl⟩ := H
                              have p105 : 0 ≤ (0 : Int) := (by omega)
                              have q105 : 0 < (l0.length : Int) := of_decide_eq_true (by first | (with_reducible assumption) | assumption)
                              obtain ⟨ad105, e105, hx105_0⟩ := Kd.at_int HR0.out 0 p105 q105
                              obtain rfl : ad103 = ad105 := (by injection e105)
                              have qi105 : (0 < l0.length) = True := eq_true (by omega)
                              (try rw [show ((0 : Int)).toNat = 0 from rfl] at hx105_0)
                              (try rw [Addr.add_zero'] at hx105_0)
                              replace hx105_0 := (HB.out.cell (World.block_lt_of_cell? w _ hx105_0)).trans hx105_0
                              replace p105 := eq_true p105
                              replace q105 := eq_true q105
                              obtain ⟨i044, hi044, _, hsz44, _⟩ := info_parts info5
                              obtain ⟨hcut44, hA44, hC44⟩ := print_take_of (P := Tryz.prog) (Value.int .u8) 0 50 5 .i64 Tryz.underlying50 hi044 hsz44 (some ad103) c0 l0 x3_3 (of_decide_eq_true (by first | (with_reducible assumption) | assumption)) (of_decide_eq_true (by first | (with_reducible assumption) | assumption)) HC0.out
                              have HR109 := Aside0.mk (Kd.C_of_reads (h1 := fun _ => rfl) (hA44 _ (Kd.reads_of_C HR0.out)))
                              have HC109 := Aside0.mk hC44
                              clear hA44 hC44 hi044 hsz44
                              go_wp2_with (first | ((with_reducible refine gate_callee (f := 198) rfl ?_); refine goesL_ (some 44) rfl rfl Tryz.func198 (by kernel_rfl) rfl #[.slice (some ad103) (l0.take (x3_3 : Int).toNat).length c0] rfl (by (try simp only [List.map_toArray, List.map_cons, List.map_nil]); first | done | (rw [show (l0.take (x3_3 : Int).toNat).length = x3_3.toNat from (by rw [List.length_take]; have h_ : (x3_3 : Int) ≤ (l0.length : Int) := of_decide_eq_true (by first | (with_reducible assumption) | assumption); omega)] <;> rfl) | rfl | (simp only [List.length_drop, List.length_take]; rfl)) ?_; (with_reducible refine (compact_number.calls _ _ (l0.take (x3_3 : Int).toNat) t110 _ ?side1 ?side2 A32.out).mono ?_); (case side1 => repeat (first | exact (Kd.C_below HR109.out HB.out) | (with_reducible refine Kd.C_alloc ?_ _) | (with_reducible refine Kd.C_drewN ?_ _) | (with_reducible refine Kd.C_drew ?_))); (case side2 => exact HC109.out); rintro e w45 ⟨rfl, hb⟩; refine ⟨_, rfl, ?_⟩; have n0_ := Aside0.mk (below_step (by repeat (first | (with_reducible first | exact HB.out | apply below_alloc | apply pw_below_drewN | apply below_drew1) | exact HB.out)) hb); clear HB; have HB := n0_; clear n0_; (try clear hb); (try clear hb2); (try clear hk); (try clear hi)) | (go_at_call 53; (with_reducible refine (compact_Size.calls kj7 (wrap64 (Int.tdiv t110 4)) t111 _ A39.out).mono ?_); rintro e w46 ⟨rfl, hb⟩; have n0_ := Aside0.mk (below_step (by repeat (first | (with_reducible first | exact HB.out | apply below_alloc | apply pw_below_drewN | apply below_drew1) | exact HB.out)) hb); clear HB; have HB := n0_; clear n0_; (try clear hb); (try clear hb2); (try clear hk); (try clear hi)))
                              go_ret3
                              exact ⟨by first | rfl | (simp [errW_none, errW_some] <;> rfl) | (simp [*, errW_none, errW_some] <;> rfl), by repeat (first | (with_reducible first | exact HB.out | apply below_alloc | apply pw_below_drewN | apply below_drew1) | exact HB.out)⟩
                      · rw [if_neg c31] at H
                        exact absurd H (by simp)
                    · rw [if_neg c30] at H
                      exact absurd H (by simp)
                · rw [if_neg c11] at H
                  exact absurd H (by simp)
    · rw [if_neg c3] at H
      exact absurd H (by simp)

/-! ### compact_Cut: function 89 -/
def compact_Cut.f (k : Nat) (l0 : List Int) : Option (List Int × Int × Bool) := (compact_Take.f k l0).bind fun bt112 => (if bt112.2.2 = true then (if bt112.1 > (wrap64 ((l0.length : Int) - bt112.2.1)) then (some (([] : List Int), 0, false)) else (if 0 ≤ bt112.2.1 then (if bt112.2.1 ≤ (wrap64 (bt112.2.1 + bt112.1)) then (if (wrap64 (bt112.2.1 + bt112.1)) ≤ (l0.length : Int) then ((slices_Clone_byte_byte.f ((l0.take ((wrap64 (bt112.2.1 + bt112.1)) : Int).toNat).drop (bt112.2.1 : Int).toNat)).bind fun t116 => (some (t116, wrap64 (bt112.2.1 + bt112.1), true))) else (none)) else (none)) else (none))) else (some (([] : List Int), 0, false)))
set_option maxHeartbeats 8000000 in
set_option maxRecDepth 100000 in
theorem compact_Cut.calls (k : Nat) (A0 : Option Addr) (c0 : Nat) (l0 : List Int) (r1 : List Int) (r2 : Int) (r3 : Bool) (w : World) (hr0 : Kd.C (Kd.int .u8) w A0 l0.length l0) (hc0 : l0.length ≤ c0) (h : compact_Cut.f k l0 = some (r1, r2, r3)) :
    Calls Tryz.prog 89 #[.slice A0 l0.length c0] w fun e w' => ∃ v0_ : Value, e = .returned (.tuple #[v0_, .int .i64 r2, .bool r3]) ∧ Kd.R (Kd.int .u8) 5 w' w.heap.size (fun _ => True) v0_ r1 ∧ Below w.heap.size w w' := by
  have HR0 := Aside0.mk hr0
  have HC0 := Aside0.mk hc0
  clear hr0 hc0
  have HB := Aside0.mk (Below.refl w.heap.size w)
  have H : ((compact_Take.f k l0).bind fun bt112 => (if bt112.2.2 = true then (if bt112.1 > (wrap64 ((l0.length : Int) - bt112.2.1)) then (some (([] : List Int), 0, false)) else (if 0 ≤ bt112.2.1 then (if bt112.2.1 ≤ (wrap64 (bt112.2.1 + bt112.1)) then (if (wrap64 (bt112.2.1 + bt112.1)) ≤ (l0.length : Int) then ((slices_Clone_byte_byte.f ((l0.take ((wrap64 (bt112.2.1 + bt112.1)) : Int).toNat).drop (bt112.2.1 : Int).toNat)).bind fun t116 => (some (t116, wrap64 (bt112.2.1 + bt112.1), true))) else (none)) else (none)) else (none))) else (some (([] : List Int), 0, false)))) = some (r1, r2, r3) := h
  clear h
  replace H := Option.bind_eq_some_iff.mp H
  obtain ⟨⟨t112, t113, t114⟩, A20, H⟩ := H
  replace H : (if t114 = true then (if t112 > (wrap64 ((l0.length : Int) - t113)) then (some (([] : List Int), 0, false)) else (if 0 ≤ t113 then (if t113 ≤ (wrap64 (t113 + t112)) then (if (wrap64 (t113 + t112)) ≤ (l0.length : Int) then ((slices_Clone_byte_byte.f ((l0.take ((wrap64 (t113 + t112)) : Int).toNat).drop (t113 : Int).toNat)).bind fun t116 => (some (t116, wrap64 (t113 + t112), true))) else (none)) else (none)) else (none))) else (some (([] : List Int), 0, false))) = some (r1, r2, r3) := H
  have A2 := Aside0.mk A20
  clear A20
  by_cases c3 : t114 = true
  · subst c3
    have H1 : (if t112 > (wrap64 ((l0.length : Int) - t113)) then (some (([] : List Int), 0, false)) else (if 0 ≤ t113 then (if t113 ≤ (wrap64 (t113 + t112)) then (if (wrap64 (t113 + t112)) ≤ (l0.length : Int) then ((slices_Clone_byte_byte.f ((l0.take ((wrap64 (t113 + t112)) : Int).toNat).drop (t113 : Int).toNat)).bind fun t116 => (some (t116, wrap64 (t113 + t112), true))) else (none)) else (none)) else (none))) = some (r1, r2, r3) := by rw [if_pos rfl] at H; exact H
    clear H
    have H := H1
    clear H1
    by_cases c4 : t112 > (wrap64 ((l0.length : Int) - t113))
    · rw [if_pos c4] at H
      have c4b0 : decide ((wrap64 ((l0.length : Int) - t113)) < t112) = true := decide_eq_true c4
      clear c4
      simp only [Option.some.injEq, Prod.mk.injEq] at H
      obtain ⟨rfl, rfl, rfl⟩ := H
      go_enter Tryz.func89, Tryz.ntmps89
      go_wp2_with (first | ((with_reducible refine gate_callee (f := 151) rfl ?_); refine goesL_ (some 9) rfl rfl Tryz.func151 (by kernel_rfl) rfl #[.slice A0 l0.length c0] rfl (by (try simp only [List.map_toArray, List.map_cons, List.map_nil]); first | done | rfl | (simp only [List.length_drop, List.length_take]; rfl)) ?_; (with_reducible refine (compact_Take.calls k _ _ l0 t112 t113 true _ ?side1 ?side2 A2.out).mono ?_); (case side1 => repeat (first | exact HR0.out | (with_reducible refine Kd.C_alloc ?_ _) | (with_reducible refine Kd.C_drewN ?_ _) | (with_reducible refine Kd.C_drew ?_))); (case side2 => exact HC0.out); rintro e w5 ⟨rfl, hb⟩; refine ⟨_, rfl, ?_⟩; have n0_ := Aside0.mk (below_step (by repeat (first | (with_reducible first | exact HB.out | apply below_alloc | apply pw_below_drewN | apply below_drew1) | exact HB.out)) hb); clear HB; have HB := n0_; clear n0_; (try clear hb); (try clear hb2); (try clear hk); (try clear hi)))
      go_ret3
      exact ⟨_, by first | rfl | (simp [errW_none, errW_some] <;> rfl) | (simp [*, errW_none, errW_some] <;> rfl), by first | exact Kd.R_nil _ _ _ _ _ | exact Kd.N_nil _ _ _ _ _ | exact Kd.V_nil _ _ _ _ _ | exact Kd.Q_nil _ _ _ _ _ | exact Kd.S_nil _ _ _ _ _, by repeat (first | (with_reducible first | exact HB.out | apply below_alloc | apply pw_below_drewN | apply below_drew1) | exact HB.out)⟩
    · rw [if_neg c4] at H
      have c4b0 : decide ((wrap64 ((l0.length : Int) - t113)) < t112) = false := decide_eq_false c4
      clear c4
      by_cases c6 : 0 ≤ t113
      · rw [if_pos c6] at H
        have c6b0 := eq_true c6
        have c6b1 : decide (0 ≤ t113) = true := decide_eq_true c6
        clear c6
        by_cases c7 : t113 ≤ (wrap64 (t113 + t112))
        · rw [if_pos c7] at H
          have c7b0 := eq_true c7
          have c7b1 : decide (t113 ≤ (wrap64 (t113 + t112))) = true := decide_eq_true c7
          by_cases c8 : (wrap64 (t113 + t112)) ≤ (l0.length : Int)
          · rw [if_pos c8] at H
            have c8b0 := eq_true c8
            have c8b1 : decide ((wrap64 (t113 + t112)) ≤ (l0.length : Int)) = true := decide_eq_true c8
            replace H := Option.bind_eq_some_iff.mp H
            obtain ⟨t116, A90, H⟩ := H
            replace H : (some (t116, wrap64 (t113 + t112), true)) = some (r1, r2, r3) := H
            have A9 := Aside0.mk A90
            clear A90
            simp only [Option.some.injEq, Prod.mk.injEq] at H
            obtain ⟨rfl, rfl, rfl⟩ := H
            go_enter Tryz.func89, Tryz.ntmps89
            go_wp2_with (first | ((with_reducible refine gate_callee (f := 151) rfl ?_); refine goesL_ (some 9) rfl rfl Tryz.func151 (by kernel_rfl) rfl #[.slice A0 l0.length c0] rfl (by (try simp only [List.map_toArray, List.map_cons, List.map_nil]); first | done | rfl | (simp only [List.length_drop, List.length_take]; rfl)) ?_; (with_reducible refine (compact_Take.calls k _ _ l0 t112 t113 true _ ?side1 ?side2 A2.out).mono ?_); (case side1 => repeat (first | exact HR0.out | (with_reducible refine Kd.C_alloc ?_ _) | (with_reducible refine Kd.C_drewN ?_ _) | (with_reducible refine Kd.C_drew ?_))); (case side2 => exact HC0.out); rintro e w10 ⟨rfl, hb⟩; refine ⟨_, rfl, ?_⟩; have n0_ := Aside0.mk (below_step (by repeat (first | (with_reducible first | exact HB.out | apply below_alloc | apply pw_below_drewN | apply below_drew1) | exact HB.out)) hb); clear HB; have HB := n0_; clear n0_; (try clear hb); (try clear hb2); (try clear hk); (try clear hi); obtain ⟨i011, hi011, _, hsz11, _⟩ := info_parts info5; obtain ⟨A11, hcut11, hA11, hC11⟩ := print_mid_of (P := Tryz.prog) (Value.int .u8) 0 50 5 .i64 .i64 Tryz.underlying50 hi011 hsz11 A0 c0 l0 t113 (wrap64 (t113 + t112)) (of_decide_eq_true (by first | (with_reducible assumption) | assumption)) (by first | omega | exact of_decide_eq_true (by first | (with_reducible assumption) | assumption)) (of_decide_eq_true (by first | (with_reducible assumption) | assumption)) HC0.out; have HR115 := Aside0.mk (Kd.C_of_reads (h1 := fun _ => rfl) (hA11 _ (Kd.reads_of_C HR0.out))); have HC115 := Aside0.mk hC11; clear hA11 hC11 hi011 hsz11) | ((with_reducible refine gate_callee (f := 90) rfl ?_); refine goesL_ (some 29) rfl rfl Tryz.func90 (by kernel_rfl) rfl #[.slice A11 ((l0.take ((wrap64 (t113 + t112)) : Int).toNat).drop (t113 : Int).toNat).length (c0 - t113.toNat)] rfl (by (try simp only [List.map_toArray, List.map_cons, List.map_nil]); first | done | (rw [show ((l0.take ((wrap64 (t113 + t112)) : Int).toNat).drop (t113 : Int).toNat).length = ((wrap64 (t113 + t112)).toNat - t113.toNat) from (by rw [List.length_drop, List.length_take]; have h_ : ((wrap64 (t113 + t112)) : Int) ≤ (l0.length : Int) := of_decide_eq_true (by first | (with_reducible assumption) | assumption); omega)] <;> rfl) | rfl | (simp only [List.length_drop, List.length_take]; rfl)) ?_; (with_reducible refine (slices_Clone_byte_byte.calls _ _ ((l0.take ((wrap64 (t113 + t112)) : Int).toNat).drop (t113 : Int).toNat) t116 _ ?side1 ?side2 A9.out).mono ?_); (case side1 => repeat (first | exact (Kd.C_below HR115.out HB.out) | (with_reducible refine Kd.C_alloc ?_ _) | (with_reducible refine Kd.C_drewN ?_ _) | (with_reducible refine Kd.C_drew ?_))); (case side2 => exact HC115.out); rintro e w12 ⟨v117, rfl, ho0, hb⟩; refine ⟨_, rfl, ?_⟩; have n0_ := Aside0.mk (Kd.R_lower ho0 (below_size (by repeat (first | (with_reducible first | exact HB.out | apply below_alloc | apply pw_below_drewN | apply below_drew1) | exact HB.out)))); have n1_ := Aside0.mk (below_step (by repeat (first | (with_reducible first | exact HB.out | apply below_alloc | apply pw_below_drewN | apply below_drew1) | exact HB.out)) hb); clear HB; have HO118 := n0_; have HB := n1_; clear n0_ n1_; (try clear hb); (try clear hb2); (try clear hk); (try clear hi); (try clear ho0)))
            go_ret3
            exact ⟨_, by first | rfl | (simp [errW_none, errW_some] <;> rfl) | (simp [*, errW_none, errW_some] <;> rfl), by (with_reducible repeat (first | apply Kd.R_alloc | apply Kd.R_drewN | apply Kd.R_drew)); exact HO118.out, by repeat (first | (with_reducible first | exact HB.out | apply below_alloc | apply pw_below_drewN | apply below_drew1) | exact HB.out)⟩
          · rw [if_neg c8] at H
            exact absurd H (by simp)
        · rw [if_neg c7] at H
          exact absurd H (by simp)
      · rw [if_neg c6] at H
        exact absurd H (by simp)
  · replace c3 := Bool.eq_false_iff.mpr c3
    subst c3
    have H1 : (some (([] : List Int), 0, false)) = some (r1, r2, r3) := by rw [if_neg (show ¬ (false = true) by decide)] at H; exact H
    clear H
    have H := H1
    clear H1
    simp only [Option.some.injEq, Prod.mk.injEq] at H
    obtain ⟨rfl, rfl, rfl⟩ := H
    go_enter Tryz.func89, Tryz.ntmps89
    go_wp2_with (first | ((with_reducible refine gate_callee (f := 151) rfl ?_); refine goesL_ (some 9) rfl rfl Tryz.func151 (by kernel_rfl) rfl #[.slice A0 l0.length c0] rfl (by (try simp only [List.map_toArray, List.map_cons, List.map_nil]); first | done | rfl | (simp only [List.length_drop, List.length_take]; rfl)) ?_; (with_reducible refine (compact_Take.calls k _ _ l0 t112 t113 false _ ?side1 ?side2 A2.out).mono ?_); (case side1 => repeat (first | exact HR0.out | (with_reducible refine Kd.C_alloc ?_ _) | (with_reducible refine Kd.C_drewN ?_ _) | (with_reducible refine Kd.C_drew ?_))); (case side2 => exact HC0.out); rintro e w13 ⟨rfl, hb⟩; refine ⟨_, rfl, ?_⟩; have n0_ := Aside0.mk (below_step (by repeat (first | (with_reducible first | exact HB.out | apply below_alloc | apply pw_below_drewN | apply below_drew1) | exact HB.out)) hb); clear HB; have HB := n0_; clear n0_; (try clear hb); (try clear hb2); (try clear hk); (try clear hi)))
    go_ret3
    exact ⟨_, by first | rfl | (simp [errW_none, errW_some] <;> rfl) | (simp [*, errW_none, errW_some] <;> rfl), by first | exact Kd.R_nil _ _ _ _ _ | exact Kd.N_nil _ _ _ _ _ | exact Kd.V_nil _ _ _ _ _ | exact Kd.Q_nil _ _ _ _ _ | exact Kd.S_nil _ _ _ _ _, by repeat (first | (with_reducible first | exact HB.out | apply below_alloc | apply pw_below_drewN | apply below_drew1) | exact HB.out)⟩

-- NOT PRINTED: function 44 (compact_Rows)

-- NOT PRINTED: function 21 (script_Rows)

end Go.Proofs.YtockdfnnhkhlkaaGreatDoor.G

/- Numbers as bytes, plainly: what compact's Size, lays, Put and Take compute. -/
namespace Go.Proofs.YtockdfnnhkhlkaaGreatDoor.PNum
open Go.RowKit Go.Proofs.YtockdfnnhkhlkaaGreatDoor.G Go.Proofs.YtockdfnnhkhlkaaGreatDoorW.PrintWords Go.Proofs.YtockdfnnhkhlkaaGreatDoorW.PrintMore
set_option linter.unusedVariables false
set_option linter.unusedSimpArgs false

theorem wrap_in {a : Int} (h0 : 0 ≤ a) (h : a ≤ 9223372036854775807) : wrap64 a = a := by unfold wrap64; omega
theorem mx_eq (a b : Int) : mx a b = max a b := by unfold mx; omega
theorem mn_eq (a b : Int) : mn a b = min a b := by unfold mn; omega

/-! ### bytes, the lowest first -/
def lowB (n : Int) : Nat → List Int
  | 0 => []
  | s + 1 => n % 256 :: lowB (n / 256) s
def valB : List Int → Int
  | [] => 0
  | c :: r => c + 256 * valB r
def IsBytes (l : List Int) : Prop := ∀ c ∈ l, 0 ≤ c ∧ c < 256
theorem lowB_length (n : Int) (s : Nat) : (lowB n s).length = s := by
  induction s generalizing n with
  | zero => rfl
  | succ s ih => simp [lowB, ih]
theorem lowB_bytes (n : Int) (s : Nat) : IsBytes (lowB n s) := by
  induction s generalizing n with
  | zero => intro c h; simp [lowB] at h
  | succ s ih =>
    intro c h
    simp only [lowB, List.mem_cons] at h
    rcases h with rfl | h
    · omega
    · exact ih _ c h
theorem valB_lowB (s : Nat) : ∀ n : Int, 0 ≤ n → n < 256 ^ s → valB (lowB n s) = n := by
  induction s with
  | zero => intro n h0 h; simp at h; simp [lowB, valB]; omega
  | succ s ih =>
    intro n h0 h
    have h1 : n / 256 < 256 ^ s := by
      apply Int.ediv_lt_of_lt_mul (by omega)
      rw [Int.pow_succ] at h
      exact h
    simp only [lowB, valB, ih (n / 256) (by omega) h1]
    omega
theorem valB_bound (l : List Int) (h : IsBytes l) : 0 ≤ valB l ∧ valB l < 256 ^ l.length := by
  induction l with
  | nil => simp [valB]
  | cons c r ih =>
    have hc := h c (by simp)
    have hr := ih (fun x hx => h x (by simp [hx]))
    simp only [valB, List.length_cons, Int.pow_succ]
    generalize (256 : Int) ^ r.length = p at *
    omega
theorem lowB_valB (l : List Int) (h : IsBytes l) : lowB (valB l) l.length = l := by
  induction l with
  | nil => rfl
  | cons c r ih =>
    have hc := h c (by simp)
    have hr := ih (fun x hx => h x (by simp [hx]))
    have e1 : (c + 256 * valB r) % 256 = c := by omega
    have e2 : (c + 256 * valB r) / 256 = valB r := by omega
    simp only [valB, List.length_cons, lowB, e1, e2, hr]
theorem IsBytes.append {a b : List Int} (ha : IsBytes a) (hb : IsBytes b) : IsBytes (a ++ b) := fun c h => (List.mem_append.1 h).elim (ha c) (hb c)
theorem IsBytes.take {a : List Int} (ha : IsBytes a) (n : Nat) : IsBytes (a.take n) := fun c h => ha c (List.mem_of_mem_take h)
theorem IsBytes.drop {a : List Int} (ha : IsBytes a) (n : Nat) : IsBytes (a.drop n) := fun c h => ha c (List.mem_of_mem_drop h)

theorem number_tells (l : List Int) : compact_number.f l = some (wrap64 (valB l)) := by
  unfold compact_number.f
  congr 1
  rw [List.foldl_reverse]
  induction l with
  | nil => decide +kernel
  | cons c r ih =>
    simp only [List.foldr_cons, ih, valB]
    unfold numStep wrap64
    omega

/-! ### sizes -/
def heldN (n : Int) : Int := min (max n 0) 4611686018427387904
theorem heldN_bound (n : Int) : 0 ≤ heldN n ∧ heldN n ≤ 4611686018427387904 := by unfold heldN; omega
theorem heldN_in {n : Int} (h0 : 0 ≤ n) (h : n ≤ 4611686018427387904) : heldN n = n := by unfold heldN; omega
theorem heldN_held (n : Int) : heldN (heldN n) = heldN n := heldN_in (heldN_bound n).1 (heldN_bound n).2
def widthN (n : Int) : Nat := if n < 4294967296 then 4 else if n < 1099511627776 then 5 else if n < 281474976710656 then 6 else if n < 72057594037927936 then 7 else 8
def sizeN (n : Int) : Nat := if heldN n < 64 then 1 else if heldN n < 16384 then 2 else if heldN n < 1073741824 then 4 else 1 + widthN (heldN n)
def numB (n : Int) : List Int :=
  if heldN n < 64 then lowB (4 * heldN n) 1 else if heldN n < 16384 then lowB (4 * heldN n + 1) 2 else if heldN n < 1073741824 then lowB (4 * heldN n + 2) 4
  else (4 * ((widthN (heldN n) : Int) - 4) + 3) :: lowB (heldN n) (widthN (heldN n))
theorem widthN_range (n : Int) : 4 ≤ widthN n ∧ widthN n ≤ 8 := by unfold widthN; (repeat' split) <;> omega
theorem sizeN_range (n : Int) : 1 ≤ sizeN n ∧ sizeN n ≤ 9 := by have := widthN_range (heldN n); unfold sizeN; (repeat' split) <;> omega
theorem numB_length (n : Int) : (numB n).length = sizeN n := by
  unfold numB sizeN
  split
  · simp [lowB_length]
  · split
    · simp [lowB_length]
    · split
      · simp [lowB_length]
      · simp [lowB_length]; omega
theorem numB_bytes (n : Int) : IsBytes (numB n) := by
  have := widthN_range (heldN n)
  unfold numB
  (repeat' split)
  · exact lowB_bytes _ _
  · exact lowB_bytes _ _
  · exact lowB_bytes _ _
  · intro c h
    rcases List.mem_cons.1 h with rfl | h
    · omega
    · exact lowB_bytes _ _ c h
theorem sizeN_held (n : Int) : sizeN (heldN n) = sizeN n := by unfold sizeN; rw [heldN_held]

theorem held_tells (n : Int) : compact_held.f n = some (heldN n) := by
  unfold compact_held.f heldN; rw [mx_eq, mn_eq]

theorem shr_at (n : Int) (m : Nat) (h : m ≤ 64) : shr .i64 n (m : Int) = n / 2 ^ m := by
  unfold shr
  rw [show min ((m : Int)).toNat IntKind.i64.bits = m from by simp [IntKind.bits]; omega]

theorem width_step (k : Nat) (n : Int) (x : Nat) (hx : x < 8) :
    compact_width.l0 (k + 1) n x = if n / 2 ^ (8 * x) > 0 then compact_width.l0 k n ((x + 1 : Nat) : Int) else some (x : Int) := by
  have e : wrap64 (8 * (x : Int)) = ((8 * x : Nat) : Int) := by rw [wrap_in (by omega) (by omega)]; omega
  have e1 : wrap64 ((x : Int) + 1) = ((x + 1 : Nat) : Int) := by rw [wrap_in (by omega) (by omega)]; omega
  rw [compact_width.l0, if_pos (by omega), e, if_pos (by omega), shr_at _ _ (by omega), e1]
theorem width_end (k : Nat) (n : Int) : compact_width.l0 (k + 1) n ((8 : Nat) : Int) = some 8 := by
  rw [compact_width.l0, if_neg (by omega)]; rfl

theorem pos_div (n p : Int) (hp : 0 < p) : (n / p > 0) ↔ p ≤ n := by
  constructor
  · intro h
    have h1 : 1 * p ≤ n := (Int.le_ediv_iff_mul_le hp).1 (by omega)
    omega
  · intro h
    have : 1 ≤ n / p := (Int.le_ediv_iff_mul_le hp).2 (by omega)
    omega

theorem width_tells (k : Nat) (n : Int) (hk : 5 ≤ k) : compact_width.f k n = some (widthN n : Int) := by
  obtain ⟨k, rfl⟩ : ∃ m, k = m + 5 := ⟨k - 5, by omega⟩
  unfold compact_width.f widthN
  have s4 := width_step (k + 4) n 4 (by omega)
  have s5 := width_step (k + 3) n 5 (by omega)
  have s6 := width_step (k + 2) n 6 (by omega)
  have s7 := width_step (k + 1) n 7 (by omega)
  have s8 := width_end k n
  have p4 := pos_div n (2 ^ (8 * 4)) (by decide)
  have p5 := pos_div n (2 ^ (8 * 5)) (by decide)
  have p6 := pos_div n (2 ^ (8 * 6)) (by decide)
  have p7 := pos_div n (2 ^ (8 * 7)) (by decide)
  rw [show ((2 : Int) ^ (8 * 4)) = 4294967296 from by decide] at s4 p4
  rw [show ((2 : Int) ^ (8 * 5)) = 1099511627776 from by decide] at s5 p5
  rw [show ((2 : Int) ^ (8 * 6)) = 281474976710656 from by decide] at s6 p6
  rw [show ((2 : Int) ^ (8 * 7)) = 72057594037927936 from by decide] at s7 p7
  refine Eq.trans s4 ?_
  by_cases h4 : n < 4294967296
  · rw [if_neg (by rw [p4]; omega), if_pos h4]
  · rw [if_pos (by rw [p4]; omega), if_neg h4]
    refine Eq.trans s5 ?_
    by_cases h5 : n < 1099511627776
    · rw [if_neg (by rw [p5]; omega), if_pos h5]
    · rw [if_pos (by rw [p5]; omega), if_neg h5]
      refine Eq.trans s6 ?_
      by_cases h6 : n < 281474976710656
      · rw [if_neg (by rw [p6]; omega), if_pos h6]
      · rw [if_pos (by rw [p6]; omega), if_neg h6]
        refine Eq.trans s7 ?_
        by_cases h7 : n < 72057594037927936
        · rw [if_neg (by rw [p7]; omega), if_pos h7]
        · rw [if_pos (by rw [p7]; omega), if_neg h7]
          exact s8

theorem size_tells (k : Nat) (n : Int) (hk : 5 ≤ k) : compact_Size.f k n = some (sizeN n : Int) := by
  have hw := widthN_range (heldN n)
  unfold compact_Size.f sizeN
  rw [held_tells, Option.bind_some, width_tells k _ hk, Option.bind_some]
  (repeat' split)
  · rfl
  · rfl
  · rfl
  · rw [wrap_in (by omega) (by omega)]; simp

/-! ### laying -/
theorem low_loop (s : Nat) : ∀ (k : Nat) (l : List Int) (n : Int) (i m : Nat), m = i + s → m ≤ 1000 → s < k → l.length + s < 140737488355328 →
    compact_low.l0 k l n m i = some (l ++ lowB n s) := by
  induction s with
  | zero =>
    intro k l n i m hm hb hk hl
    obtain ⟨k, rfl⟩ : ∃ q, k = q + 1 := ⟨k - 1, by omega⟩
    rw [compact_low.l0, if_neg (by omega)]
    simp [lowB]
  | succ s ih =>
    intro k l n i m hm hb hk hl
    obtain ⟨k, rfl⟩ : ∃ q, k = q + 1 := ⟨k - 1, by omega⟩
    have e1 : wrap64 ((i : Int) + 1) = ((i + 1 : Nat) : Int) := by rw [wrap_in (by omega) (by omega)]; omega
    rw [compact_low.l0, if_pos (by omega), if_pos (by omega), e1, ih k _ _ (i + 1) m (by omega) hb (by omega) (by simp; omega)]
    simp [lowB]
theorem low_tells (k : Nat) (l : List Int) (n : Int) (s : Nat) (hs : s ≤ 1000) (hk : s < k) (hl : l.length + s < 140737488355328) : compact_low.f k l n s = some (l ++ lowB n s) :=
  low_loop s k l n 0 s (by omega) hs hk hl

theorem lays_tells (k : Nat) (l : List Int) (n : Int) (hk : 10 ≤ k) (hl : l.length + 9 < 140737488355328) : compact_lays.f k l n = some (l ++ numB n) := by
  have hb := heldN_bound n
  have hw := widthN_range (heldN n)
  unfold compact_lays.f numB
  rw [held_tells, Option.bind_some, size_tells k _ (by omega), Option.bind_some, sizeN_held]
  unfold sizeN
  by_cases h1 : heldN n < 64
  · rw [if_pos h1, if_pos h1, if_pos h1, wrap_in (by omega) (by omega), low_tells k l _ 1 (by omega) (by omega) (by omega), Option.bind_some]
  · rw [if_neg h1, if_neg h1, if_neg h1]
    by_cases h2 : heldN n < 16384
    · rw [if_pos h2, if_pos h2, if_pos h2, wrap_in (a := 4 * heldN n) (by omega) (by omega), wrap_in (by omega) (by omega), low_tells k l _ 2 (by omega) (by omega) (by omega), Option.bind_some]
    · rw [if_neg h2, if_neg h2, if_neg h2]
      by_cases h3 : heldN n < 1073741824
      · rw [if_pos h3, if_pos h3, if_pos h3, wrap_in (a := 4 * heldN n) (by omega) (by omega), wrap_in (by omega) (by omega), low_tells k l _ 4 (by omega) (by omega) (by omega), Option.bind_some]
      · rw [if_neg h3, if_neg h3, if_neg h3]
        generalize widthN (heldN n) = q at hw
        have e1 : wrap64 (((1 + q : Nat) : Int) - 1) = (q : Int) := by rw [wrap_in (by omega) (by omega)]; omega
        have e2 : wrap64 ((q : Int) - 4) = (q : Int) - 4 := wrap_in (by omega) (by omega)
        have e3 : wrap64 (4 * ((q : Int) - 4)) = 4 * ((q : Int) - 4) := wrap_in (by omega) (by omega)
        have e4 : wrap64 (4 * ((q : Int) - 4) + 3) = 4 * ((q : Int) - 4) + 3 := wrap_in (by omega) (by omega)
        have e5 : (4 * ((q : Int) - 4) + 3) % 256 = 4 * ((q : Int) - 4) + 3 := by omega
        rw [e1, e2, e3, e4, e5, if_pos (by omega), low_tells k _ _ q (by omega) (by omega) (by simp; omega)]
        simp

end Go.Proofs.YtockdfnnhkhlkaaGreatDoor.PNum

/- What compact.Take tells, plainly. -/
namespace Go.Proofs.YtockdfnnhkhlkaaGreatDoor.PNum
open Go.RowKit Go.Proofs.YtockdfnnhkhlkaaGreatDoor.G Go.Proofs.YtockdfnnhkhlkaaGreatDoorW.PrintWords Go.Proofs.YtockdfnnhkhlkaaGreatDoorW.PrintMore
set_option linter.unusedVariables false
set_option linter.unusedSimpArgs false

def headSize (c : Int) : Nat := if c % 4 = 0 then 1 else if c % 4 = 1 then 2 else if c % 4 = 2 then 4 else 5 + (c / 4).toNat
def valAt (c : Int) (l : List Int) : Int := if c % 4 = 3 then wrap64 (valB ((l.take (headSize c)).drop 1)) else valB (l.take (headSize c)) / 4
def takeAt (c : Int) (l : List Int) : Option (Int × Nat) :=
  if 9 < headSize c ∨ l.length < headSize c then none
  else if valAt c l < 0 ∨ 4611686018427387904 < valAt c l ∨ sizeN (valAt c l) ≠ headSize c then none else some (valAt c l, headSize c)
def takeN : List Int → Option (Int × Nat)
  | [] => none
  | c :: r => takeAt c (c :: r)
def outT : Option (Int × Nat) → Int × Int × Bool
  | none => (0, 0, false)
  | some (n, s) => (n, (s : Int), true)

theorem pow_256_4 : (256 : Int) ^ 4 = 4294967296 := by decide
theorem pow_256_8 : (256 : Int) ^ 8 = 18446744073709551616 := by decide

/-! ### what is told is what was put -/
theorem takeN_put {n : Int} (h0 : 0 ≤ n) (h : n ≤ 4611686018427387904) (more : List Int) : takeN (numB n ++ more) = some (n, sizeN n) := by
  have hh := heldN_in h0 h
  have hw := widthN_range n
  have key : ∀ (c : Int) (r : List Int), numB n = c :: r → headSize c = sizeN n → valAt c (numB n ++ more) = n → takeN (numB n ++ more) = some (n, sizeN n) := by
    intro c r he hs hv
    have hl := numB_length n
    have hz := sizeN_range n
    have e : takeN (numB n ++ more) = takeAt c (numB n ++ more) := by rw [he]; rfl
    rw [e]
    unfold takeAt
    rw [hv, hs, if_neg (by rw [List.length_append]; omega), if_neg (by simp; omega)]
  have htake : ∀ s, sizeN n = s → (numB n ++ more).take s = numB n := by
    intro s hs
    rw [← hs, ← numB_length n]
    exact List.take_left'  rfl
  by_cases h1 : n < 64
  · have e : numB n = [4 * n] := by
      unfold numB; rw [hh, if_pos h1]; simp [lowB]; omega
    have es : sizeN n = 1 := by unfold sizeN; rw [hh, if_pos h1]
    have hc : headSize (4 * n) = 1 := by unfold headSize; rw [if_pos (by omega)]
    refine key _ _ e (by rw [hc, es]) ?_
    unfold valAt
    rw [if_neg (by omega), hc, htake 1 es, e]
    simp [valB]
  · by_cases h2 : n < 16384
    · have e : numB n = [(4 * n + 1) % 256, (4 * n + 1) / 256 % 256] := by unfold numB; rw [hh, if_neg h1, if_pos h2]; rfl
      have ev : valB (numB n) = 4 * n + 1 := by
        unfold numB; rw [hh, if_neg h1, if_pos h2]; exact valB_lowB 2 _ (by omega) (by simp; omega)
      have es : sizeN n = 2 := by unfold sizeN; rw [hh, if_neg h1, if_pos h2]
      have hc : headSize ((4 * n + 1) % 256) = 2 := by unfold headSize; rw [if_neg (by omega), if_pos (by omega)]
      refine key _ _ e (by rw [hc, es]) ?_
      unfold valAt
      rw [if_neg (by omega), hc, htake 2 es, ev]
      omega
    · by_cases h3 : n < 1073741824
      · have e : numB n = (4 * n + 2) % 256 :: lowB ((4 * n + 2) / 256) 3 := by unfold numB; rw [hh, if_neg h1, if_neg h2, if_pos h3]; rfl
        have ev : valB (numB n) = 4 * n + 2 := by
          unfold numB; rw [hh, if_neg h1, if_neg h2, if_pos h3]; exact valB_lowB 4 _ (by omega) (by rw [pow_256_4]; omega)
        have es : sizeN n = 4 := by unfold sizeN; rw [hh, if_neg h1, if_neg h2, if_pos h3]
        have hc : headSize ((4 * n + 2) % 256) = 4 := by unfold headSize; rw [if_neg (by omega), if_neg (by omega), if_pos (by omega)]
        refine key _ _ e (by rw [hc, es]) ?_
        unfold valAt
        rw [if_neg (by omega), hc, htake 4 es, ev]
        omega
      · have e : numB n = (4 * ((widthN n : Int) - 4) + 3) :: lowB n (widthN n) := by unfold numB; rw [hh, if_neg h1, if_neg h2, if_neg h3]
        have es : sizeN n = 1 + widthN n := by unfold sizeN; rw [hh, if_neg h1, if_neg h2, if_neg h3]
        have hc : headSize (4 * ((widthN n : Int) - 4) + 3) = 1 + widthN n := by unfold headSize; rw [if_neg (by omega), if_neg (by omega), if_neg (by omega)]; omega
        have hb : n < 256 ^ widthN n := by
          have hwn : widthN n = 4 ∧ n < 4294967296 ∨ widthN n = 5 ∧ n < 1099511627776 ∨ widthN n = 6 ∧ n < 281474976710656 ∨ widthN n = 7 ∧ n < 72057594037927936 ∨ widthN n = 8 := by
            unfold widthN; (repeat' split) <;> omega
          rcases hwn with ⟨w, hn⟩ | ⟨w, hn⟩ | ⟨w, hn⟩ | ⟨w, hn⟩ | w <;> rw [w]
          · exact hn
          · exact hn
          · exact hn
          · exact hn
          · rw [pow_256_8]; omega
        refine key _ _ e (by rw [hc, es]) ?_
        unfold valAt
        rw [if_pos (by omega), hc, htake _ es, e, List.drop_one, List.tail_cons, valB_lowB _ n h0 hb]
        exact wrap_in h0 (by omega)

/-! ### what is told was put -/
theorem takeN_tells {l : List Int} (hl : IsBytes l) {n : Int} {s : Nat} (h : takeN l = some (n, s)) : 0 ≤ n ∧ n ≤ 4611686018427387904 ∧ s = sizeN n ∧ s ≤ l.length ∧ l.take s = numB n := by
  cases l with
  | nil => cases h
  | cons c r =>
    have hc := hl c (by simp)
    change takeAt c (c :: r) = some (n, s) at h
    unfold takeAt at h
    by_cases ha : 9 < headSize c ∨ (c :: r).length < headSize c
    · rw [if_pos ha] at h; cases h
    · rw [if_neg ha] at h
      by_cases hb : valAt c (c :: r) < 0 ∨ 4611686018427387904 < valAt c (c :: r) ∨ sizeN (valAt c (c :: r)) ≠ headSize c
      · rw [if_pos hb] at h; cases h
      · rw [if_neg hb] at h
        injection h with h
        injection h with hn hs
        have q0 : 0 ≤ n := by omega
        have q1 : n ≤ 4611686018427387904 := by omega
        have hss : sizeN n = headSize c := by rw [← hn]; omega
        have hh := heldN_in q0 q1
        have hlen : s ≤ (c :: r).length := by omega
        refine ⟨q0, q1, by omega, hlen, ?_⟩
        have hw := widthN_range n
        have htl : ((c :: r).take s).length = s := by rw [List.length_take]; omega
        have hbt : IsBytes ((c :: r).take s) := hl.take s
        have hlow := lowB_valB _ hbt
        rw [htl] at hlow
        have hs1 : 1 ≤ s := by have := sizeN_range n; omega
        have hcons : (c :: r).take s = c :: r.take (s - 1) := by
          obtain ⟨q, rfl⟩ : ∃ q, s = q + 1 := ⟨s - 1, by omega⟩
          simp
        have hvm : valB ((c :: r).take s) = c + 256 * valB (r.take (s - 1)) := by rw [hcons]; rfl
        rw [hs] at hss
        unfold valAt at hn
        rw [hs] at hn
        unfold headSize at hs
        by_cases c0 : c % 4 = 0
        · rw [if_pos c0] at hs
          rw [if_neg (by omega)] at hn
          have hn1 : n < 64 := by
            unfold sizeN at hss; rw [hh, ← hs] at hss
            by_cases h1 : n < 64
            · exact h1
            · rw [if_neg h1] at hss; (repeat' split at hss) <;> omega
          unfold numB
          rw [hh, if_pos hn1, ← hlow, hvm, ← hs]
          rw [← hs] at hn hvm
          congr 1
          omega
        · rw [if_neg c0] at hs
          by_cases c1 : c % 4 = 1
          · rw [if_pos c1] at hs
            rw [if_neg (by omega)] at hn
            have hn1 : ¬ n < 64 ∧ n < 16384 := by
              unfold sizeN at hss; rw [hh, ← hs] at hss
              by_cases h1 : n < 64
              · rw [if_pos h1] at hss; omega
              · rw [if_neg h1] at hss
                by_cases h2 : n < 16384
                · exact ⟨h1, h2⟩
                · rw [if_neg h2] at hss; (repeat' split at hss) <;> omega
            unfold numB
            rw [hh, if_neg hn1.1, if_pos hn1.2, ← hlow, hvm, ← hs]
            rw [← hs] at hn hvm
            congr 1
            omega
          · rw [if_neg c1] at hs
            by_cases c2 : c % 4 = 2
            · rw [if_pos c2] at hs
              rw [if_neg (by omega)] at hn
              have hn1 : ¬ n < 64 ∧ ¬ n < 16384 ∧ n < 1073741824 := by
                unfold sizeN at hss; rw [hh, ← hs] at hss
                by_cases h1 : n < 64
                · rw [if_pos h1] at hss; omega
                · rw [if_neg h1] at hss
                  by_cases h2 : n < 16384
                  · rw [if_pos h2] at hss; omega
                  · rw [if_neg h2] at hss
                    by_cases h3 : n < 1073741824
                    · exact ⟨h1, h2, h3⟩
                    · rw [if_neg h3] at hss; omega
              unfold numB
              rw [hh, if_neg hn1.1, if_neg hn1.2.1, if_pos hn1.2.2, ← hlow, hvm, ← hs]
              rw [← hs] at hn hvm
              congr 1
              omega
            · rw [if_neg c2] at hs
              rw [if_pos (by omega), hcons, List.drop_one, List.tail_cons] at hn
              have hn1 : ¬ n < 64 ∧ ¬ n < 16384 ∧ ¬ n < 1073741824 := by
                unfold sizeN at hss; rw [hh] at hss
                by_cases h1 : n < 64
                · rw [if_pos h1] at hss; omega
                · rw [if_neg h1] at hss
                  by_cases h2 : n < 16384
                  · rw [if_pos h2] at hss; omega
                  · rw [if_neg h2] at hss
                    by_cases h3 : n < 1073741824
                    · rw [if_pos h3] at hss; omega
                    · exact ⟨h1, h2, h3⟩
              have hsw : s = 1 + widthN n := by
                unfold sizeN at hss; rw [hh, if_neg hn1.1, if_neg hn1.2.1, if_neg hn1.2.2] at hss; omega
              have hr : IsBytes (r.take (s - 1)) := fun x hx => hl x (List.mem_cons_of_mem _ (List.mem_of_mem_take hx))
              have hrl : (r.take (s - 1)).length = widthN n := by rw [List.length_take]; simp at hlen; omega
              have hb := valB_bound _ hr
              have hp : (256 : Int) ^ (r.take (s - 1)).length ≤ 18446744073709551616 := by
                rw [hrl]
                have hx : widthN n = 4 ∨ widthN n = 5 ∨ widthN n = 6 ∨ widthN n = 7 ∨ widthN n = 8 := by omega
                rcases hx with x | x | x | x | x <;> rw [x] <;> decide
              have hv : valB (r.take (s - 1)) = n := by
                have hx : valB (r.take (s - 1)) < 18446744073709551616 := Int.lt_of_lt_of_le hb.2 hp
                have hy := hb.1
                unfold wrap64 at hn
                omega
              have hlr := lowB_valB _ hr
              rw [hv, hrl] at hlr
              unfold numB
              rw [hh, if_neg hn1.1, if_neg hn1.2.1, if_neg hn1.2.2, hcons, hlr]
              congr 1
              omega

end Go.Proofs.YtockdfnnhkhlkaaGreatDoor.PNum

/- compact.Take, plainly. -/
namespace Go.Proofs.YtockdfnnhkhlkaaGreatDoor.PNum
open Go.RowKit Go.Proofs.YtockdfnnhkhlkaaGreatDoor.G Go.Proofs.YtockdfnnhkhlkaaGreatDoorW.PrintWords Go.Proofs.YtockdfnnhkhlkaaGreatDoorW.PrintMore Go.Proofs.YtockdfnnhkhlkaaGreatDoorW.PrintLast
set_option linter.unusedVariables false
set_option linter.unusedSimpArgs false

theorem ctake_fin (k : Nat) (hk : 5 ≤ k) (v : Int) (x : Nat) :
    (if v < 0 then some ((0 : Int), (0 : Int), false) else if v > 4611686018427387904 then some (0, 0, false) else (compact_Size.f k v).bind fun t => if t = (x : Int) then some (v, (x : Int), true) else some (0, 0, false)) =
      some (outT (if v < 0 ∨ 4611686018427387904 < v ∨ sizeN v ≠ x then none else some (v, x))) := by
  by_cases h1 : v < 0
  · rw [if_pos h1, if_pos (Or.inl h1)]; rfl
  · rw [if_neg h1]
    by_cases h2 : 4611686018427387904 < v
    · rw [if_pos h2, if_pos (Or.inr (Or.inl h2))]; rfl
    · rw [if_neg h2, size_tells k v hk, Option.bind_some]
      by_cases h3 : sizeN v = x
      · rw [if_pos (by rw [h3]), if_neg (by simp [h1, h2, h3])]; rfl
      · rw [if_neg (by intro h; exact h3 (by omega)), if_pos (Or.inr (Or.inr h3))]; rfl

theorem small_val {l : List Int} (hl : IsBytes l) (s : Nat) (hs : s ≤ 4) : 0 ≤ valB (l.take s) ∧ valB (l.take s) < 4294967296 := by
  have hb := valB_bound _ (hl.take s)
  have hp : (256 : Int) ^ (l.take s).length ≤ 4294967296 := by
    have hx : (l.take s).length ≤ 4 := Nat.le_trans (List.length_take_le s _) hs
    generalize (l.take s).length = q at hx
    have hq : q = 0 ∨ q = 1 ∨ q = 2 ∨ q = 3 ∨ q = 4 := by omega
    rcases hq with x | x | x | x | x <;> rw [x] <;> decide
  exact ⟨hb.1, by have := hb.2; omega⟩

theorem ctake_tells (k : Nat) (l : List Int) (hl : IsBytes l) (hk : 10 ≤ k) : compact_Take.f k l = some (outT (takeN l)) := by
  cases l with
  | nil => rfl
  | cons c r =>
    have hc := hl c (by simp)
    have hr0 : rd (c :: r) 0 = c := rfl
    have t4 : Int.tmod c 4 = c % 4 := Int.tmod_eq_emod_of_nonneg hc.1
    have d4 : Int.tdiv c 4 = c / 4 := Int.tdiv_eq_ediv_of_nonneg hc.1
    have key : ∀ (s : Nat), 1 ≤ s → s ≤ 100 → s = headSize c → (c % 4 ≠ 3 → s ≤ 4) → compact_Take.j0 k (c :: r) s = some (outT (takeN (c :: r))) := by
      intro s h1 h2 h4 h5
      obtain ⟨k, rfl⟩ : ∃ q, k = q + 2 := ⟨k - 2, by omega⟩
      have hlen1 : (0 : Int) < (((c :: r).length : Nat) : Int) := by simp
      have s0 : (0 : Int) ≤ (s : Int) := by omega
      have s1 : (1 : Int) ≤ (s : Int) := by omega
      have stn : ((s : Int)).toNat = s := by omega
      show _ = some (outT (takeAt c (c :: r)))
      unfold takeAt
      rw [compact_Take.j0, ← h4]
      by_cases ha : 9 < s
      · rw [if_pos (by omega), compact_Take.j1, if_pos rfl, if_pos (Or.inl ha)]; rfl
      · rw [if_neg (by omega), compact_Take.j1]
        by_cases hb : (c :: r).length < s
        · rw [if_pos (by rw [decide_eq_true_eq]; omega), if_pos (Or.inr hb)]; rfl
        · have sl : (s : Int) ≤ (((c :: r).length : Nat) : Int) := by omega
          have hn : ¬ (9 < s ∨ (c :: r).length < s) := by omega
          have hd : ¬ (decide ((s : Int) > (((c :: r).length : Nat) : Int)) = true) := by rw [decide_eq_true_eq]; omega
          rw [if_neg hd, if_neg hn, if_pos hlen1, hr0, t4]
          by_cases c3 : c % 4 = 3
          · have hv : valAt c (c :: r) = wrap64 (valB (((c :: r).take s).drop 1)) := by unfold valAt; rw [if_pos c3, ← h4]
            rw [if_pos c3, if_pos s1, if_pos sl, stn, number_tells, Option.bind_some, hv]
            exact ctake_fin k (by omega) _ s
          · have hq := small_val hl s (h5 c3)
            have hw : wrap64 (valB ((c :: r).take s)) = valB ((c :: r).take s) := wrap_in hq.1 (by omega)
            have hd4 : Int.tdiv (valB ((c :: r).take s)) 4 = valB ((c :: r).take s) / 4 := Int.tdiv_eq_ediv_of_nonneg hq.1
            have hw4 : wrap64 (valB ((c :: r).take s) / 4) = valB ((c :: r).take s) / 4 := wrap_in (by omega) (by omega)
            have hv : valAt c (c :: r) = valB ((c :: r).take s) / 4 := by unfold valAt; rw [if_neg c3, ← h4]
            rw [if_neg c3, if_pos s0, if_pos sl, stn, number_tells, Option.bind_some, hv, hw, hd4, hw4]
            exact ctake_fin k (by omega) _ s
    have hlen0 : ¬ (((c :: r).length : Nat) : Int) = 0 := by simp; omega
    have hlen1 : (0 : Int) < (((c :: r).length : Nat) : Int) := by simp
    unfold compact_Take.f
    rw [if_neg hlen0, if_pos hlen1, hr0, t4, d4]
    by_cases c0 : c % 4 = 0
    · rw [if_pos c0]
      exact key 1 (by omega) (by omega) (by unfold headSize; rw [if_pos c0]) (by omega)
    · rw [if_neg c0]
      by_cases c1 : c % 4 = 1
      · rw [if_pos c1]
        exact key 2 (by omega) (by omega) (by unfold headSize; rw [if_neg c0, if_pos c1]) (by omega)
      · rw [if_neg c1]
        by_cases c2 : c % 4 = 2
        · rw [if_pos c2]
          exact key 4 (by omega) (by omega) (by unfold headSize; rw [if_neg c0, if_neg c1, if_pos c2]) (by omega)
        · rw [if_neg c2]
          have e : (5 : Int) + c / 4 % 256 = ((5 + (c / 4).toNat : Nat) : Int) := by omega
          rw [e]
          exact key (5 + (c / 4).toNat) (by omega) (by omega) (by unfold headSize; rw [if_neg c0, if_neg c1, if_neg c2]) (by omega)

end Go.Proofs.YtockdfnnhkhlkaaGreatDoor.PNum

/- What ranges over functions need. -/
namespace Go.Proofs.YtockdfnnhkhlkaaGreatDoor.G
open Go.RowKit Go.Shelf Go.Proofs.YtockdfnnhkhlkaaGreatDoorW Go.Proofs.YtockdfnnhkhlkaaGreatDoorW.PrintWords Go.Proofs.YtockdfnnhkhlkaaGreatDoor.PNum
set_option linter.unusedVariables false
set_option linter.unusedSimpArgs false
attribute [local go_sem] Oper.semAt_some

theorem below_grown {W W' : World} (h : Below W.heap.size W W') : W.grownBy W' none := ⟨h.os, h.tape, h.output, h.size, fun k hk _ => h.block k hk⟩
theorem abides_below {β : Type} {B : Nat} {J : β → World → Prop} (hJ : AbidesFrom B J) {s : β} {W W' : World} (h : J s W) (hb : Below W.heap.size W W') : J s W' := hJ s W W' none h (below_grown hb) (fun r e => by cases e)
theorem C_keeps {k : IntKind} {S : Nat → Prop} {W W' : World} {A : Option Addr} {n : Nat} {xs : List Int} (h : Kd.C (Kd.int k) W A n xs) (hA : ∀ ad, A = some ad → 0 < n → S ad.block) (hk : KeepsS S W W') : Kd.C (Kd.int k) W' A n xs := by
  refine ⟨h.1, h.2.1, fun h0 => ?_⟩
  obtain ⟨ad, e, hc⟩ := h.2.2 h0
  refine ⟨ad, e, fun j p hj => ?_⟩
  obtain ⟨c, hl, hr, hcell⟩ := hc j p hj
  refine ⟨c, hl, hr, fun i u hu => ?_⟩
  have hlt := hA ad e h0
  have hq := World.cell?_of_block (w := W) (w' := W') (a := ad.add (j * (Kd.int k).sz + i)) (by rw [addr_block]; exact hk.2 _ hlt)
  rw [hq]; exact hcell i u hu
theorem cut_tail (t e : TypeId) {P : Program} {i : TypeInfo} (ht : P.underlying t = some (.slice e)) (hi : P.info? e = some i) (hsz : i.size = 1) (A : Option Addr) (c : Nat) (xs : List Int) (j : Nat) (hm : j ≤ xs.length) (hc : xs.length ≤ c) :
    ∃ A' : Option Addr, (∀ W : World, (Instr.slice t (.slice A xs.length c) (some (.int .i64 (j : Int))) none none).run P W = .ok (.slice A' (xs.length - j) (c - j)) W) ∧
      (∀ (k : IntKind) (w : World), Kd.C (Kd.int k) w A xs.length xs → Kd.C (Kd.int k) w A' (xs.drop j).length (xs.drop j)) ∧ xs.length - j ≤ c - j ∧ (∀ ad', A' = some ad' → ∃ ad, A = some ad ∧ ad'.block = ad.block) := by
  refine ⟨if c = j then A else A.map (·.add (j * 1)), fun W => ?_, fun k w h => Kd.C_drop h hm hc, by omega, ?_⟩
  · exact cut_from (P := P) t e .i64 ht hi 1 hsz A xs.length c (j : Int) (by omega) (by omega) W
  · intro ad' e'
    by_cases h : c = j
    · rw [if_pos h] at e'; exact ⟨ad', e', rfl⟩
    · rw [if_neg h] at e'
      cases A with
      | none => cases e'
      | some ad => simp at e'; subst e'; exact ⟨ad, rfl, addr_block _ _⟩
theorem takeN_size {b : List Int} {n : Int} {s : Nat} (h : takeN b = some (n, s)) : 1 ≤ s ∧ s ≤ b.length := by
  cases b with
  | nil => cases h
  | cons c r =>
    change takeAt c (c :: r) = some (n, s) at h
    unfold takeAt at h
    split at h
    · cases h
    · split at h
      · cases h
      · injection h with h
        injection h with h1 h2
        have h3 : 1 ≤ headSize c := by unfold headSize; (repeat' split) <;> omega
        omega
def sliceLen : Value → Nat
  | .slice _ n _ => n
  | _ => 0
/-- A function value is not nil. -/
theorem run_equalIn_func {P : Program} (W : World) (d t : Nat) {x y : Array TypeId} {z : Bool} (h : P.underlying t = some (.func x y z)) (f : Fn) (ts bs : Array Value) : (Op.equalIn (d + 1) t (.func f ts bs) .nilFunc).run P W = .ok false W := by
  simp [Op.equalIn, run_underlying h]
theorem run_eql_func {P : Program} (W : World) (t : Nat) {x y : Array TypeId} {z : Bool} (h : P.underlying t = some (.func x y z)) (f : Fn) (ts bs : Array Value) : (binOp .eql t (.func f ts bs) .nilFunc).run P W = .ok (.bool false) W := by
  simp only [binOp]
  simp [Op.equal, Op.maxDepth, run_equalIn_func W 9999 t h f ts bs]
theorem boxed_putObj {W : World} {B l : Nat} {t : TypeId} {u : Value} (h : Boxed W B t u) {o : Obj} (o' : Obj) (hl : W.heap[l]? = some o) (ho : o.isCells = false) : Boxed (W.putObj l o') B t u := by
  refine h.kept (grownBy_putObj' W l o') (fun e' => ?_)
  cases e'
  rw [show W.heap[B]? = _ from h] at hl; cases hl; cases ho

end Go.Proofs.YtockdfnnhkhlkaaGreatDoor.G

/- Rows, plainly (without what chapter 1 asks of them). -/
namespace Go.Proofs.YtockdfnnhkhlkaaGreatDoor.PNum
open Go.RowKit Go.Proofs.YtockdfnnhkhlkaaGreatDoor.G Go.Proofs.YtockdfnnhkhlkaaGreatDoorW.PrintWords Go.Proofs.YtockdfnnhkhlkaaGreatDoorW.PrintMore Go.Proofs.YtockdfnnhkhlkaaGreatDoorW.PrintLast
set_option linter.unusedVariables false
set_option linter.unusedSimpArgs false

def rowsSize (l : List (List Int)) : Nat := (l.map fun p => 1 + p.length).sum
theorem rowsSize_cons (p : List Int) (l : List (List Int)) : rowsSize (p :: l) = 1 + p.length + rowsSize l := by simp [rowsSize]
theorem rd_L (l : List (List Int)) (i : Nat) (h : i < l.length) : rd_L1 l (i : Int) = l[i] := by
  unfold rd_L1
  simp [List.getD_eq_getElem?_getD, h]
theorem length_le_rowsSize (l : List (List Int)) : l.length ≤ rowsSize l := by
  induction l with
  | nil => simp
  | cons p l ih => rw [rowsSize_cons, List.length_cons]; omega

def rowB (p : List Int) : List Int := numB (p.length : Int) ++ p
def rowsB (l : List (List Int)) : List Int := l.flatMap rowB
theorem rowsB_cons (p : List Int) (l : List (List Int)) : rowsB (p :: l) = rowB p ++ rowsB l := rfl
theorem rowB_length (p : List Int) : (rowB p).length = sizeN p.length + p.length := by unfold rowB; rw [List.length_append, numB_length]
theorem rowsB_length (l : List (List Int)) : (rowsB l).length ≤ 9 * rowsSize l := by
  induction l with
  | nil => simp [rowsB]
  | cons p l ih =>
    have := sizeN_range (p.length : Int)
    rw [rowsB_cons, List.length_append, rowB_length, rowsSize_cons]; omega
theorem rowB_bytes {p : List Int} (h : IsBytes p) : IsBytes (rowB p) := (numB_bytes _).append h
theorem rowsB_bytes {l : List (List Int)} (h : ∀ p ∈ l, IsBytes p) : IsBytes (rowsB l) := by
  intro c hc
  obtain ⟨p, hp, hcp⟩ := List.mem_flatMap.1 hc
  exact rowB_bytes (h p hp) c hcp

theorem row_loop (ps : List (List Int)) (hps : rowsSize ps ≤ 1000000000) (d : Nat) : ∀ (k i : Nat) (b : List Int), i + d = ps.length → d + 11 ≤ k → b.length + 9 * rowsSize (ps.drop i) + 9 < 140737488355328 →
    compact_Row.l0 k b ps (ps.length : Int) i = some (b ++ rowsB (ps.drop i)) := by
  induction d with
  | zero =>
    intro k i b hi hk hl
    obtain ⟨k, rfl⟩ : ∃ q, k = q + 1 := ⟨k - 1, by omega⟩
    rw [compact_Row.l0, if_neg (by omega), List.drop_eq_nil_of_le (by omega)]
    simp [rowsB]
  | succ d ih =>
    intro k i b hi hk hl
    obtain ⟨k, rfl⟩ : ∃ q, k = q + 1 := ⟨k - 1, by omega⟩
    have hlt : i < ps.length := by omega
    have hll := length_le_rowsSize ps
    have e1 : wrap64 ((i : Int) + 1) = ((i + 1 : Nat) : Int) := by rw [wrap_in (by omega) (by omega)]; omega
    have hs := sizeN_range (ps[i].length : Int)
    have hz := numB_length (ps[i].length : Int)
    have hd := List.drop_eq_getElem_cons hlt
    rw [hd, rowsSize_cons] at hl
    have c1 : (i : Int) < (ps.length : Int) := by omega
    have c2 : (0 : Int) ≤ (i : Int) := by omega
    have c3 : (b ++ numB (ps[i].length : Int)).length + ps[i].length < 140737488355328 := by rw [List.length_append]; omega
    have hi' : i + 1 + d = ps.length := by omega
    have hk' : d + 11 ≤ k := by omega
    have hl' : (b ++ numB (ps[i].length : Int) ++ ps[i]).length + 9 * rowsSize (ps.drop (i + 1)) + 9 < 140737488355328 := by rw [List.length_append, List.length_append]; omega
    rw [compact_Row.l0, if_pos c1, if_pos c2, if_pos c1, rd_L ps i hlt, lays_tells k b _ (by omega) (by omega), Option.bind_some, if_pos c3, e1]
    rw [ih k (i + 1) _ hi' hk' hl', hd, rowsB_cons, rowB]
    simp
theorem row_tells (k : Nat) (b : List Int) (ps : List (List Int)) (hps : rowsSize ps ≤ 1000000000) (hk : ps.length + 11 ≤ k) (hb : b.length + 9 * rowsSize ps + 9 < 140737488355328) : compact_Row.f k b ps = some (b ++ rowsB ps) := by
  unfold compact_Row.f
  have hc : slices_Clone_byte_byte.f b = some b := by
    unfold slices_Clone_byte_byte.f
    rw [Option.bind_some, if_pos (by simp; omega)]; rfl
  rw [hc, Option.bind_some]
  exact row_loop ps hps ps.length k 0 b (by omega) hk (by simpa using hb)

/-! ### Cut -/
def cutN (b : List Int) : Option (List Int × Nat) :=
  match takeN b with
  | none => none
  | some (n, s) => if (b.length : Int) - s < n then none else some ((b.take (s + n.toNat)).drop s, s + n.toNat)
def outC : Option (List Int × Nat) → List Int × Int × Bool
  | none => ([], 0, false)
  | some (p, s) => (p, (s : Int), true)
theorem clone_tells (l : List Int) (h : l.length < 140737488355328) : slices_Clone_byte_byte.f l = some l := by
  unfold slices_Clone_byte_byte.f
  rw [Option.bind_some, if_pos (by simpa using h)]; rfl
theorem cut_tells (k : Nat) (b : List Int) (hb : IsBytes b) (hl : b.length < 140737488355328) (hk : 10 ≤ k) : compact_Cut.f k b = some (outC (cutN b)) := by
  unfold compact_Cut.f cutN
  rw [ctake_tells k b hb hk, Option.bind_some]
  cases e : takeN b with
  | none => rfl
  | some x =>
    obtain ⟨n, s⟩ := x
    obtain ⟨q0, q1, q2, q3, q4⟩ := takeN_tells hb e
    have hs := sizeN_range n
    rw [show outT (some (n, s)) = (n, (s : Int), true) from rfl]
    dsimp only
    have w1 : wrap64 ((b.length : Int) - (s : Int)) = (b.length : Int) - s := wrap_in (by omega) (by omega)
    have w2 : wrap64 ((s : Int) + n) = (s : Int) + n := wrap_in (by omega) (by omega)
    rw [if_pos rfl, w1, w2]
    by_cases h : n > (b.length : Int) - s
    · rw [if_pos h, if_pos (by omega)]; rfl
    · have c1 : (0 : Int) ≤ (s : Int) := by omega
      have c2 : (s : Int) ≤ (s : Int) + n := by omega
      have c3 : (s : Int) + n ≤ (b.length : Int) := by omega
      have t1 : ((s : Int) + n).toNat = s + n.toNat := by omega
      have t2 : ((s : Int)).toNat = s := by omega
      have hc : ((b.take (s + n.toNat)).drop s).length < 140737488355328 := by rw [List.length_drop, List.length_take]; omega
      have hneg : ¬ ((b.length : Int) - s < n) := by omega
      rw [if_neg h, if_pos c1, if_pos c2, if_pos c3, t1, t2, clone_tells _ hc, Option.bind_some, if_neg hneg]
      show some (_, _, true) = some (_, _, true)
      congr 3
      omega

end Go.Proofs.YtockdfnnhkhlkaaGreatDoor.PNum

/- compact.Rows: the iterator over the rows of bytes, and what it hands over. -/
namespace Go.Proofs.YtockdfnnhkhlkaaGreatDoor.G
open Go.RowKit Go.Shelf Go.Proofs.YtockdfnnhkhlkaaGreatDoorW Go.Proofs.YtockdfnnhkhlkaaGreatDoorW.PrintWords Go.Proofs.YtockdfnnhkhlkaaGreatDoorW.PrintMore Go.Proofs.YtockdfnnhkhlkaaGreatDoor.PNum
set_option linter.unusedVariables false
set_option linter.unusedSimpArgs false
attribute [local go_sem] Oper.semAt_some

theorem cutN_size {b p : List Int} {s : Nat} (h : cutN b = some (p, s)) : 1 ≤ s ∧ s ≤ b.length ∧ p.length ≤ s := by
  unfold cutN at h
  cases hT : takeN b with
  | none => rw [hT] at h; cases h
  | some x =>
    obtain ⟨n, t⟩ := x
    rw [hT] at h
    have ht := takeN_size hT
    dsimp only at h
    split at h
    · cases h
    · injection h with h
      injection h with h1 h2
      subst h1 h2
      refine ⟨by omega, ?_, ?_⟩
      · rcases Nat.lt_or_ge b.length (t + n.toNat) with h | h
        · omega
        · exact h
      · rw [List.length_drop, List.length_take]; omega

/-- All rows that stand one behind the other at the front. -/
def rowsF : Nat → List Int → List (List Int)
  | 0, _ => []
  | f + 1, b => match cutN b with
    | none => []
    | some (p, s) => p :: rowsF f (b.drop s)
def rowsL (b : List Int) : List (List Int) := rowsF (b.length + 1) b
theorem rowsF_more (f g : Nat) : ∀ b : List Int, b.length < f → b.length < g → rowsF f b = rowsF g b := by
  induction f generalizing g with
  | zero => intro b h; omega
  | succ f ih =>
    intro b h1 h2
    cases g with
    | zero => omega
    | succ g =>
      unfold rowsF
      cases hT : cutN b with
      | none => rfl
      | some x =>
        obtain ⟨n, s⟩ := x
        have hs := cutN_size hT
        dsimp only
        rw [ih g (b.drop s) (by rw [List.length_drop]; omega) (by rw [List.length_drop]; omega)]
theorem rowsL_none {b : List Int} (h : cutN b = none) : rowsL b = [] := by simp [rowsL, rowsF, h]
theorem rowsL_some {b p : List Int} {s : Nat} (h : cutN b = some (p, s)) : rowsL b = p :: rowsL (b.drop s) := by
  have hs := cutN_size h
  unfold rowsL
  rw [rowsF, h]
  dsimp only
  rw [rowsF_more b.length ((b.drop s).length + 1) (b.drop s) (by rw [List.length_drop]; omega) (by omega)]

/-- Places beside what stands there. -/
def placedFrom {β : Type} : Nat → List β → List (Int × β)
  | _, [] => []
  | i, x :: l => ((i : Int), x) :: placedFrom (i + 1) l
def placed {β : Type} (l : List β) : List (Int × β) := placedFrom 0 l
theorem placedFrom_snoc {β : Type} (l : List β) (v : β) : ∀ i, placedFrom i (l ++ [v]) = placedFrom i l ++ [(((i + l.length : Nat) : Int), v)] := by
  induction l with
  | nil => intro i; simp [placedFrom]
  | cons x l ih => intro i; simp only [List.cons_append, placedFrom, ih, List.length_cons]; congr 3; simp; omega
theorem placed_snoc {β : Type} (l : List β) (v : β) : placed (l ++ [v]) = placed l ++ [((l.length : Int), v)] := by unfold placed; rw [placedFrom_snoc]; simp
theorem placed_length {β : Type} (l : List β) : (placed l).length = l.length := by
  have : ∀ i, (placedFrom i l).length = l.length := by
    induction l with
    | nil => intro i; rfl
    | cons x l ih => intro i; simp [placedFrom, ih]
  exact this 0
theorem placed_snds {β : Type} (l : List β) : (placed l).map (·.2) = l := by
  have : ∀ i, (placedFrom i l).map (·.2) = l := by
    induction l with
    | nil => intro i; rfl
    | cons x l ih => intro i; simp [placedFrom, ih]
  exact this 0

/-- What is handed over: the place, the row's value, the row. -/
abbrev RowAt := Int × Value × List Int
def bare (x : RowAt) : Int × List Int := (x.1, x.2.2)
/-- What holds of it where it is handed over: a row of its own, newer than all that was there (m). -/
def RowT (b : List Int) (pre : List RowAt) (x : RowAt) (m : Nat) (W : World) : Prop :=
  x.1 = (pre.length : Int) ∧ (rowsL b)[pre.length]? = some x.2.2 ∧ Kd.R (Kd.int .u8) 5 W m (fun _ => True) x.2.1 x.2.2

set_option maxRecDepth 100000 in
set_option maxHeartbeats 4000000 in
theorem rows1_in (n : Nat) (hn : 1 ≤ n) (l Bb Bn : Nat) (A : Option Addr) (cap : Nat) (b : List Int) (hb : IsBytes b) (hbl : b.length < 140737488355328) (hcap : b.length ≤ cap) (S : Nat → Prop) (hSb : S Bb) (hSn : S Bn) (hA : ∀ ad, A = some ad → 0 < b.length → S ad.block) (W : World) (hSW : ∀ k, S k → k < W.heap.size) (J Jx : List RowAt → World → Prop) (hJ : AbidesFrom W.heap.size J)
    (hY : ∀ pre x W0 W1, J pre W0 → pre.length < (rowsL b).length → Below W0.heap.size W0 W1 → RowT b pre x W0.heap.size W1 → YieldAt Fence.wide (n - 1) Tryz.prog l #[.int .i64 x.1, x.2.1] W1 fun e W' =>
      (e = .returned (.bool true) ∧ J (pre ++ [x]) W' ∧ KeepsS S W1 W') ∨ (e = .returned (.bool false) ∧ Jx (pre ++ [x]) W'))
    (hBb : W.cell? ⟨Bb, 0, none⟩ = some (.slice A b.length cap)) (hBn : W.cell? ⟨Bn, 0, none⟩ = some (.func (.func 89) #[] #[])) (hC : Kd.C (Kd.int .u8) W A b.length b) (h0 : J [] W) :
    CallsIn Fence.wide n Tryz.prog 150 #[.func (.yield l) #[] #[], .pointer (some ⟨Bb, 0, none⟩), .pointer (some ⟨Bn, 0, none⟩)] W fun e W' => (∃ v, e = .returned v) ∧
      ((∃ ys : List RowAt, ys.map bare = placed (rowsL b) ∧ J ys W') ∨ (∃ pre : List RowAt, (∃ ns, ns <+: rowsL b ∧ pre.map bare = placed ns) ∧ Jx pre W')) := by
  refine callsIn_of_wp Tryz.func150 rfl trivial ?_ rfl
  simp only [Tryz.ntmps150, List.size_toArray, List.length_cons, List.length_nil, Nat.reduceAdd, Nat.reduceSub, Array.replicate_succ, Array.replicate_zero, List.push_toArray, List.append_toArray, List.nil_append, List.cons_append]
  obtain ⟨i0, hi0, _, hsz, _⟩ := info_parts info5
  gi_wp2
  gi_loopw [4, 5] (fun left i wr => ∃ (ns : List (List Int)) (pre : List RowAt) (A' : Option Addr) (c' : Nat) (r : List Int), left = .slice A' r.length c' ∧ i = .int .i64 (ns.length : Int) ∧ rowsL b = ns ++ rowsL r ∧ pre.map bare = placed ns ∧ Kd.C (Kd.int .u8) wr A' r.length r ∧ r.length ≤ c' ∧ IsBytes r ∧ (∀ ad, A' = some ad → 0 < r.length → S ad.block) ∧ ns.length + r.length ≤ b.length ∧ J pre wr ∧ KeepsS S W wr)
    (fun left i _ => sliceLen left)
  case atStart => exact ⟨[], [], A, cap, b, rfl, rfl, rfl, rfl, hC, hcap, hb, hA, by simp, h0, KeepsS.refl _ _⟩
  case round =>
    obtain ⟨ns, pre, A', c', r, rfl, rfl, hsp, hpre, hC', hc', hbr, hA', hlen, hJs, hnx⟩ := hrel
    have hsize := hnx.1
    have hBx := (hnx.cell (p := ⟨Bn, 0, none⟩) hSn).trans hBn
    have ht := cut_tells 20 r hbr (by omega) (by decide)
    have hA'w : ∀ (k : Nat), S k → k < wr.heap.size := fun k hk => Nat.lt_of_lt_of_le (hSW k hk) hsize
    have hpl : pre.length = ns.length := by have := congrArg List.length hpre; rwa [List.length_map, placed_length] at this
    cases hT : cutN r with
    | none =>
      rw [hT] at ht
      have ht' := Lib.hid ht
      have hsp' := Lib.hid hsp
      have hpre' := Lib.hid hpre
      have hT' := Lib.hid hT
      have hpl' := Lib.hid hpl
      clear ht hsp hT hpre hpl
      gi_wp2_with (refine ⟨trivial, ?_⟩; gi_at_call 89; refine (callsIn_wide.2 (compact_Cut.calls 20 _ _ r [] 0 false _ hC' hc' ht'.out)).mono ?_; rintro e w1 ⟨v0, rfl, hv0, hb1⟩)
      refine ⟨fun _ h => (by cases h), ?_⟩
      gi_wp2
      refine bodyPost_ret (results_none rfl _ _ _) rfl ?_
      exact ⟨⟨_, rfl⟩, .inl ⟨_, by rw [hpre'.out, hsp'.out, rowsL_none hT'.out, List.append_nil], abides_below hJ hJs hb1⟩⟩
    | some x =>
      obtain ⟨v, s⟩ := x
      have hs := cutN_size hT
      have hn1 : rowsL b = (ns ++ [v]) ++ rowsL (r.drop s) := by rw [hsp, rowsL_some hT]; simp
      have hlt : pre.length < (rowsL b).length := by rw [hpl, hn1]; simp
      have hat : (rowsL b)[pre.length]? = some v := by rw [hpl, hn1, List.append_assoc, List.getElem?_append_right (Nat.le_refl _)]; simp
      obtain ⟨A2, hcut, hCr, hcc, hAA⟩ := cut_tail (P := Tryz.prog) 50 5 Tryz.underlying50 hi0 hsz A' c' r s hs.2.1 hc'
      have hrl : (r.drop s).length = r.length - s := List.length_drop
      have hw : IntKind.i64.wrap ((ns.length : Int) + 1) = ((ns ++ [v]).length : Int) := by
        have := hC.2.1
        rw [IntWalk.i64_in _ (by omega)]; simp
      have hsi : (s : Int) ≤ (r.length : Int) := by omega
      have hsi0 : (0 : Int) ≤ (s : Int) := by omega
      rw [hT] at ht
      have ht' := Lib.hid ht
      have hsp' := Lib.hid hsp
      have hn1' := Lib.hid hn1
      have hrl' := Lib.hid hrl
      have hw' := Lib.hid hw
      have hs' := Lib.hid hs
      have hT' := Lib.hid hT
      have hlt' := Lib.hid hlt
      have hat' := Lib.hid hat
      have hpre' := Lib.hid hpre
      have hpl' := Lib.hid hpl
      clear ht hsp hn1 hrl hw hs hT hlt hat hpre hpl
      gi_wp2_with (refine ⟨trivial, ?_⟩; gi_at_call 89; refine (callsIn_wide.2 (compact_Cut.calls 20 _ _ r v s true _ hC' hc' ht'.out)).mono ?_; rintro e w1 ⟨v0, rfl, hv0, hb1⟩; obtain ⟨fn, tmps, assign, body, hy, hR⟩ := hY pre ((ns.length : Int), v0, v) wr w1 hJs hlt'.out hb1 ⟨congrArg Int.ofNat hpl'.out.symm, hat'.out, hv0⟩; dsimp only at hy)
      refine hR.mono ?_
      rintro e W3 (⟨rfl, hJ3, hk3⟩ | ⟨rfl, hJx3⟩)
      · have hk1 : KeepsS S wr w1 := KeepsS.of_below hb1 hA'w
        have hC3 : Kd.C (Kd.int .u8) W3 A2 (r.drop s).length (r.drop s) := by
          refine hCr .u8 W3 (C_keeps hC' hA' (keepsS_t hk1 hk3))
        gi_wp2
        go_roundw
        case rel =>
          refine ⟨ns ++ [v], pre ++ [((ns.length : Int), v0, v)], A2, c' - s, r.drop s, ?_, ?_, hn1'.out, ?_, hC3, ?_, hbr.drop s, ?_, ?_, hJ3, keepsS_t (keepsS_t hnx hk1) hk3⟩
          · rw [hrl'.out]
          · simp
          · rw [List.map_append, hpre'.out, placed_snoc]; rfl
          · rw [hrl'.out]; exact hcc
          · intro ad' e' h'
            obtain ⟨ad, e1, e2⟩ := hAA ad' e'
            rw [e2]; exact hA' ad e1 (by rw [hrl'.out] at h'; omega)
          · rw [hrl'.out]; have := hs'.out; simp; omega
        case measure => have := hs'.out; simp [sliceLen]; omega
      · gi_wp2
        refine bodyPost_ret (results_none rfl _ _ _) rfl ?_
        exact ⟨⟨_, rfl⟩, .inr ⟨_, ⟨ns ++ [v], ⟨rowsL (r.drop s), hn1'.out.symm⟩, by rw [List.map_append, hpre'.out, placed_snoc]; rfl⟩, hJx3⟩⟩

set_option maxHeartbeats 1000000 in
theorem rowsAll_in (n : Nat) (a : Option Addr) (len cap : Nat) (w : World) :
    CallsIn Fence.wide n Tryz.prog 88 #[.slice a len cap, .func (.func 89) #[] #[]] w fun e w' => e = .returned (.func (.func 150) #[] #[.pointer (some ⟨w.heap.size, 0, none⟩), .pointer (some ⟨w.heap.size + 1, 0, none⟩)]) ∧ w' = (w.alloc (.cells #[.slice a len cap] 50)).alloc (.cells #[.func (.func 89) #[] #[]] 163) := by
  refine callsIn_of_wp Tryz.func88 rfl trivial ?_ rfl
  simp only [Tryz.ntmps88, List.size_toArray, List.length_cons, List.length_nil, Nat.reduceAdd, Nat.reduceSub, Array.replicate_succ, Array.replicate_zero, List.push_toArray, List.append_toArray, List.nil_append, List.cons_append]
  gi_wp2
  go_ret
  exact ⟨rfl, rfl⟩
set_option maxHeartbeats 1000000 in
theorem rows_in (n : Nat) (hn : 1 ≤ n) (a : Option Addr) (len cap : Nat) (w : World) :
    CallsIn Fence.wide n Tryz.prog 44 #[.slice a len cap] w fun e w' => e = .returned (.func (.func 150) #[] #[.pointer (some ⟨w.heap.size, 0, none⟩), .pointer (some ⟨w.heap.size + 1, 0, none⟩)]) ∧ w' = (w.alloc (.cells #[.slice a len cap] 50)).alloc (.cells #[.func (.func 89) #[] #[]] 163) := by
  refine callsIn_of_wp Tryz.func44 rfl trivial ?_ rfl
  simp only [Tryz.ntmps44, List.size_toArray, List.length_cons, List.length_nil, Nat.reduceAdd, Nat.reduceSub, Array.replicate_succ, Array.replicate_zero, List.push_toArray, List.append_toArray, List.nil_append, List.cons_append]
  gi_wp2_with (refine ⟨trivial, ?_⟩; gi_at_call 88; refine (rowsAll_in _ _ _ _ _).mono ?_; rintro e w' ⟨rfl, rfl⟩)
  go_ret
  exact ⟨rfl, rfl⟩

theorem rows_stops (n : Nat) (hn : 1 ≤ n) (Bb Bn : Nat) (A : Option Addr) (cap : Nat) (b : List Int) (hb : IsBytes b) (hbl : b.length < 140737488355328) (hcap : b.length ≤ cap) (S : Nat → Prop) (hSb : S Bb) (hSn : S Bn) (hA : ∀ ad, A = some ad → 0 < b.length → S ad.block) (w : World) (hSw : ∀ k, S k → k < w.heap.size)
    (hBb : w.cell? ⟨Bb, 0, none⟩ = some (.slice A b.length cap)) (hBn : w.cell? ⟨Bn, 0, none⟩ = some (.func (.func 89) #[] #[])) (hC : Kd.C (Kd.int .u8) w A b.length b) :
    SeqT Fence.wide n Tryz.prog 150 #[.pointer (some ⟨Bb, 0, none⟩), .pointer (some ⟨Bn, 0, none⟩)] (fun x : RowAt => #[Value.int .i64 x.1, x.2.1]) (KeepsS S) (RowT b) (fun ys => ys.map bare = placed (rowsL b))
      (fun pre => ∃ ns, ns <+: rowsL b ∧ pre.map bare = placed ns) (rowsL b).length w := fun l J Jx W hW hJ _ hY h0 => by
  have hk := KeepsS.of_below hW hSw
  exact rows1_in n hn l Bb Bn A cap b hb hbl hcap S hSb hSn hA W (fun k h => Nat.lt_of_lt_of_le (hSw k h) hW.size) J Jx hJ hY ((hk.cell (p := ⟨Bb, 0, none⟩) hSb).trans hBb) ((hk.cell (p := ⟨Bn, 0, none⟩) hSn).trans hBn) (Kd.C_below hC hW) h0

theorem Boxed.at {W : World} {B : Nat} (hB : W.heap.size = B) (t : TypeId) (v : Value) : Boxed (W.alloc (.cells #[v] t)) B t v := by subst hB; exact Boxed.new W t v
theorem keeps_from {β : Type} {S : Nat → Prop} {A : World} {B : Nat} (hS : ∀ k, S k → k < B) (hA : ∀ k, S k → k < A.heap.size) : OwnFrom B (fun (_ : β) W => KeepsS S A W) := fun s X Y row hv hg hr =>
  keepsS_t hv ⟨hg.size, fun k hk => hg.block k (Nat.lt_of_lt_of_le (hA k hk) hv.1) (fun e => by have := (hr k e.symm).1; have := hS k hk; omega)⟩
theorem box_from {β : Type} {B D : Nat} (t : TypeId) (u : β → Value) : OwnFrom D (fun s W => Boxed W B t (u s)) := fun s X Y row hv hg hr => hv.kept hg (fun e' => by
  obtain ⟨_, o, ho, hc⟩ := hr B e'.symm
  rw [show X.heap[B]? = _ from hv] at ho; cases ho; cases hc)
theorem Boxed.keeps {S : Nat → Prop} {A W : World} {B : Nat} {t : TypeId} {u : Value} (h : Boxed A B t u) (hk : KeepsS S A W) (hS : S B) : Boxed W B t u := (hk.2 B hS).trans h
theorem rowT_from (b : List Int) (D : Nat) : ∀ (pre : List RowAt) (x : RowAt) (m : Nat), OwnFrom D (fun (_ : Unit) W => RowT b pre x m W) := by
  rintro pre ⟨x1, xv, xl⟩ m s X Y row ⟨h1, h2, h3⟩ hg hr
  refine ⟨h1, h2, ?_⟩
  have ho := Kd.own_of_R h3
  refine Kd.R_of_own (ho.kept hg ?_) (fun _ _ => trivial)
  rcases ho.2 with ⟨e, _⟩ | ⟨g, cap, cur, e, _, hgb, _⟩
  · exact .inl (by rw [show xv = _ from e]; rfl)
  · refine .inr fun e' => ?_
    obtain ⟨_, o, ho', hc⟩ := hr g (by rw [← e', show xv = _ from e]; rfl)
    rw [hgb] at ho'; cases ho'; cases hc

end Go.Proofs.YtockdfnnhkhlkaaGreatDoor.G
