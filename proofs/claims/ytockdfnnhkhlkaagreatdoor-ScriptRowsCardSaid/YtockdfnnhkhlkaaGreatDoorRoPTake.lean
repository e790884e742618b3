import Derived.Test.YtockdfnnhkhlkaaGreatDoorRoHStep
import Derived.Test.YtockdfnnhkhlkaaGreatDoorRoGx2
import Derived.Test.YtockdfnnhkhlkaaGreatDoorRoHClone
import Derived.Laws.BitsLemmas
-- Laid by this session's own program gprint.py over the kit's print (given functions are proved by hand).
namespace Go.Proofs.YtockdfnnhkhlkaaGreatDoor.G
open Go.RowKit Go.Proofs.YtockdfnnhkhlkaaGreatDoorW.PrintWords Go.Proofs.YtockdfnnhkhlkaaGreatDoorW.PrintLast Go.Proofs.YtockdfnnhkhlkaaGreatDoorW.PrintMore
attribute [local go_sem] max2_int min2_int max_two min_two max_three min_three max_four min_four   -- for this text's walks alone
set_option linter.unusedVariables false
set_option linter.unusedSimpArgs false

/-! ### compact_Take: function 151 -/
mutual
def compact_Take.j0 : Nat → List Int → Int → Option (Int × Int × Bool)
  | 0, _, _ => none
  | k + 1, x0, x3 => if x3 > 9 then (compact_Take.j1 k x0 x3 true) else (compact_Take.j1 k x0 x3 (decide (x3 > (x0.length : Int))))
def compact_Take.j1 : Nat → List Int → Int → Bool → Option (Int × Int × Bool)
  | 0, _, _, _ => none
  | k + 1, x0, x3, x31 => if x31 = true then (some (0, 0, false)) else (if 0 < (x0.length : Int) then (if (Int.tmod (rd x0 0) 4) = 3 then (if 1 ≤ x3 then (if x3 ≤ (x0.length : Int) then ((compact_number.f ((x0.take (x3 : Int).toNat).drop 1)).bind fun t107 => (if t107 < 0 then (some (0, 0, false)) else (if t107 > 4611686018427387904 then (some (0, 0, false)) else ((compact_Size.f k t107).bind fun t108 => (if t108 = x3 then (some (t107, x3, true)) else (some (0, 0, false))))))) else (none)) else (none)) else (if 0 ≤ x3 then (if x3 ≤ (x0.length : Int) then ((compact_number.f (x0.take (x3 : Int).toNat)).bind fun t110 => (if (wrap64 (Int.tdiv t110 4)) < 0 then (some (0, 0, false)) else (if (wrap64 (Int.tdiv t110 4)) > 4611686018427387904 then (some (0, 0, false)) else ((compact_Size.f k (wrap64 (Int.tdiv t110 4))).bind fun t111 => (if t111 = x3 then (some (wrap64 (Int.tdiv t110 4), x3, true)) else (some (0, 0, false))))))) else (none)) else (none))) else (none))
end
def compact_Take.f (k : Nat) (l0 : List Int) : Option (Int × Int × Bool) := if (l0.length : Int) = 0 then (some (0, 0, false)) else (if 0 < (l0.length : Int) then (if (Int.tmod (rd l0 0) 4) = 0 then (compact_Take.j0 k l0 1) else (if (Int.tmod (rd l0 0) 4) = 1 then (compact_Take.j0 k l0 2) else (if (Int.tmod (rd l0 0) 4) = 2 then (compact_Take.j0 k l0 4) else (compact_Take.j0 k l0 (5 + ((Int.tdiv (rd l0 0) 4) % 256)))))) else (none))
set_option maxHeartbeats 8000000 in
set_option maxRecDepth 100000 in
theorem compact_Take.calls (k : Nat) (A0 : Option Addr) (c0 : Nat) (l0 : List Int) (r1 : Int) (r2 : Int) (r3 : Bool) (w : World) (hr0 : Kd.C (Kd.int .u8) w A0 l0.length l0) (hc0 : l0.length ≤ c0) (h : compact_Take.f k l0 = some (r1, r2, r3)) :
    Calls Tryz.prog 151 #[.slice A0 l0.length c0] w fun e w' => e = .returned (.tuple #[.int .i64 r1, .int .i64 r2, .bool r3]) ∧ Below w.heap.size w w' := by
  have HR0 := Aside0.mk hr0
  have HC0 := Aside0.mk hc0
  clear hr0 hc0
  have HB := Aside0.mk (Below.refl w.heap.size w)
  have H : (if (l0.length : Int) = 0 then (some (0, 0, false)) else (if 0 < (l0.length : Int) then (if (Int.tmod (rd l0 0) 4) = 0 then (compact_Take.j0 k l0 1) else (if (Int.tmod (rd l0 0) 4) = 1 then (compact_Take.j0 k l0 2) else (if (Int.tmod (rd l0 0) 4) = 2 then (compact_Take.j0 k l0 4) else (compact_Take.j0 k l0 (5 + ((Int.tdiv (rd l0 0) 4) % 256)))))) else (none))) = some (r1, r2, r3) := h
  clear h
  by_cases c2 : (l0.length : Int) = 0
  · rw [if_pos c2] at H
    have c2b0 : ((l0.length : Int) == 0) = true := beq_iff_eq.mpr c2
    have c2b1 : ((l0.length : Int) != 0) = false := bne_eq_false_iff_eq.mpr c2
    clear c2
    simp only [Option.some.injEq, Prod.mk.injEq] at H
    obtain ⟨rfl, rfl, rfl⟩ := H
    go_enter Tryz.func151, Tryz.ntmps151
    go_wp2
    go_ret3
    exact ⟨by first | rfl | (simp [errW_none, errW_some] <;> rfl) | (simp [*, errW_none, errW_some] <;> rfl), by repeat (first | (with_reducible first | exact HB.out | apply below_alloc | apply pw_below_drewN | apply below_drew1) | exact HB.out)⟩
  · rw [if_neg c2] at H
    have c2b0 : ((l0.length : Int) == 0) = false := beq_eq_false_iff_ne.mpr c2
    have c2b1 : ((l0.length : Int) != 0) = true := bne_iff_ne.mpr c2
    have c2b2 : ¬ (l0 = []) := fun h_ => c2 (by rw [h_]; rfl)
    by_cases c3 : 0 < (l0.length : Int)
    · rw [if_pos c3] at H
      have c3b0 : decide (0 < (l0.length : Int)) = true := decide_eq_true c3
      have c3b1 : decide (0 < l0.length) = true := decide_eq_true (by omega)
      clear c3
      have HC4 := Aside0.mk H
      clear H
      have p103 : 0 ≤ (0 : Int) := (by omega)
      have q103 : 0 < (l0.length : Int) := of_decide_eq_true (by first | (with_reducible assumption) | assumption)
      obtain ⟨ad103, e103, hx103_0⟩ := Kd.at_int HR0.out 0 p103 q103
      cases e103
      have qi103 : (0 < l0.length) = True := eq_true (by omega)
      (try rw [show ((0 : Int)).toNat = 0 from rfl] at hx103_0)
      (try rw [Addr.add_zero'] at hx103_0)
      replace p103 := eq_true p103
      replace q103 := eq_true q103
      go_enter Tryz.func151, Tryz.ntmps151
      go_upto_block 0 with (fail)
      go_cut [3] (fun v3 wc => ∃ (kq : Nat) (x3_3 : Int), v3 = .int .i64 x3_3 ∧ Aside0 (compact_Take.j0 kq l0 x3_3 = some (r1, r2, r3)) ∧ Aside0 (kq ≤ k) ∧ Aside0 (Below w.heap.size w wc))
      case first =>
        have H := HC4.out
        clear HC4
        by_cases c5 : (Int.tmod (rd l0 0) 4) = 0
        · rw [if_pos c5] at H
          have c5b0 : ((Int.tmod (rd l0 0) 4) == 0) = true := beq_iff_eq.mpr c5
          have c5b1 : ((Int.tmod (rd l0 0) 4) != 0) = false := bne_eq_false_iff_eq.mpr c5
          clear c5
          (first | rw [c5b0] | (simp only [i64_w, i32_w]; rw [c5b0]) | skip)
          have H' := Aside0.mk H
          clear H
          go_wp2
          go_meet
          case rel => exact ⟨_, (1), (by first | rfl | (simp; done) | (simp [*]; done)), H', ⟨by first | omega | exact Nat.le_refl _⟩, ⟨by repeat (first | (with_reducible first | exact HB.out | apply below_alloc | apply pw_below_drewN | apply below_drew1) | exact HB.out)⟩⟩
        · rw [if_neg c5] at H
          have c5b0 : ((Int.tmod (rd l0 0) 4) == 0) = false := beq_eq_false_iff_ne.mpr c5
          have c5b1 : ((Int.tmod (rd l0 0) 4) != 0) = true := bne_iff_ne.mpr c5
          (first | rw [c5b0] | (simp only [i64_w, i32_w]; rw [c5b0]) | skip)
          by_cases c6 : (Int.tmod (rd l0 0) 4) = 1
          · rw [if_pos c6] at H
            have c6b0 : ((Int.tmod (rd l0 0) 4) == 1) = true := beq_iff_eq.mpr c6
            have c6b1 : ((Int.tmod (rd l0 0) 4) != 1) = false := bne_eq_false_iff_eq.mpr c6
            clear c6
            have H' := Aside0.mk H
            clear H
            go_wp2
            go_meet
            case rel => exact ⟨_, (2), (by first | rfl | (simp; done) | (simp [*]; done)), H', ⟨by first | omega | exact Nat.le_refl _⟩, ⟨by repeat (first | (with_reducible first | exact HB.out | apply below_alloc | apply pw_below_drewN | apply below_drew1) | exact HB.out)⟩⟩
          · rw [if_neg c6] at H
            have c6b0 : ((Int.tmod (rd l0 0) 4) == 1) = false := beq_eq_false_iff_ne.mpr c6
            have c6b1 : ((Int.tmod (rd l0 0) 4) != 1) = true := bne_iff_ne.mpr c6
            by_cases c7 : (Int.tmod (rd l0 0) 4) = 2
            · rw [if_pos c7] at H
              have c7b0 : ((Int.tmod (rd l0 0) 4) == 2) = true := beq_iff_eq.mpr c7
              have c7b1 : ((Int.tmod (rd l0 0) 4) != 2) = false := bne_eq_false_iff_eq.mpr c7
              clear c7
              have H' := Aside0.mk H
              clear H
              go_wp2
              go_meet
              case rel => exact ⟨_, (4), (by first | rfl | (simp; done) | (simp [*]; done)), H', ⟨by first | omega | exact Nat.le_refl _⟩, ⟨by repeat (first | (with_reducible first | exact HB.out | apply below_alloc | apply pw_below_drewN | apply below_drew1) | exact HB.out)⟩⟩
            · rw [if_neg c7] at H
              have c7b0 : ((Int.tmod (rd l0 0) 4) == 2) = false := beq_eq_false_iff_ne.mpr c7
              have c7b1 : ((Int.tmod (rd l0 0) 4) != 2) = true := bne_iff_ne.mpr c7
              have H' := Aside0.mk H
              clear H
              have p104 : 0 ≤ (0 : Int) := (by omega)
              have q104 : 0 < (l0.length : Int) := of_decide_eq_true (by first | (with_reducible assumption) | assumption)
              obtain ⟨ad104, e104, hx104_0⟩ := Kd.at_int HR0.out 0 p104 q104
              obtain rfl : ad103 = ad104 := (by injection e104)
              have qi104 : (0 < l0.length) = True := eq_true (by omega)
              (try rw [show ((0 : Int)).toNat = 0 from rfl] at hx104_0)
              (try rw [Addr.add_zero'] at hx104_0)
              replace hx104_0 := (HB.out.cell (World.block_lt_of_cell? w _ hx104_0)).trans hx104_0
              replace p104 := eq_true p104
              replace q104 := eq_true q104
              go_wp2
              go_meet
              case rel => exact ⟨_, (5 + ((Int.tdiv (rd l0 0) 4) % 256)), (by first | rfl | (simp; done) | (simp [*]; done)), H', ⟨by first | omega | exact Nat.le_refl _⟩, ⟨by repeat (first | (with_reducible first | exact HB.out | apply below_alloc | apply pw_below_drewN | apply below_drew1) | exact HB.out)⟩⟩
      case rest =>
        clear HC4
        try clear c1
        try clear p1
        try clear q1
        try clear hx1
        try clear qi1
        try clear c2
        try clear c2b0
        try clear c2b1
        try clear c2b2
        try clear p2
        try clear c3
        try clear c3b0
        try clear c3b1
        try clear c5
        try clear c5b0
        try clear c5b1
        try clear c6
        try clear c6b0
        try clear c6b1
        try clear c7
        try clear c7b0
        try clear c7b1
        try clear hx103_0
        try clear hx104_0
        try clear p103
        try clear p104
        try clear q103
        try clear q104
        obtain ⟨kq, x3_3, rfl, HA, HJ3, HB⟩ := hcut
        cases kq with
        | zero => exact absurd HA.out (by simp [compact_Take.j0])
        | succ kj3 =>
          have H := HA.out
          clear HA
          simp only [compact_Take.j0] at H
          have HC8 := Aside0.mk H
          clear H
          go_upto_region 11 with (fail)
          go_cut [31] (fun v31 wc => ∃ (kq : Nat) (x31_7 : Bool), v31 = .bool x31_7 ∧ Aside0 (compact_Take.j1 kq l0 x3_3 x31_7 = some (r1, r2, r3)) ∧ Aside0 (kq ≤ kj3) ∧ Aside0 (Below w.heap.size w wc))
          case first =>
            have H := HC8.out
            clear HC8
            by_cases c9 : x3_3 > 9
            · rw [if_pos c9] at H
              have c9b0 : decide (9 < x3_3) = true := decide_eq_true c9
              clear c9
              (first | rw [c9b0] | (simp only [i64_w, i32_w]; rw [c9b0]) | skip)
              have H' := Aside0.mk H
              clear H
              go_wp2
              go_meet
              case rel => exact ⟨_, (true), (by first | rfl | (simp; done) | (simp [*]; done)), H', ⟨by have := HJ3.out; first | omega | exact Nat.le_refl _⟩, ⟨by repeat (first | (with_reducible first | exact HB.out | apply below_alloc | apply pw_below_drewN | apply below_drew1) | exact HB.out)⟩⟩
            · rw [if_neg c9] at H
              have c9b0 : decide (9 < x3_3) = false := decide_eq_false c9
              clear c9
              (first | rw [c9b0] | (simp only [i64_w, i32_w]; rw [c9b0]) | skip)
              have H' := Aside0.mk H
              clear H
              go_wp2
              go_meet
              case rel => exact ⟨_, (decide (x3_3 > (l0.length : Int))), (by first | rfl | (simp; done) | (simp [*]; done)), H', ⟨by have := HJ3.out; first | omega | exact Nat.le_refl _⟩, ⟨by repeat (first | (with_reducible first | exact HB.out | apply below_alloc | apply pw_below_drewN | apply below_drew1) | exact HB.out)⟩⟩
          case rest =>
            clear HC8
            try clear c1
            try clear p1
            try clear q1
            try clear hx1
            try clear qi1
            try clear c2
            try clear c2b0
            try clear c2b1
            try clear c2b2
            try clear p2
            try clear c3
            try clear c3b0
            try clear c3b1
            try clear c5
            try clear c5b0
            try clear c5b1
            try clear c6
            try clear c6b0
            try clear c6b1
            try clear c7
            try clear c7b0
            try clear c7b1
            try clear c9
            try clear c9b0
            try clear hx103_0
            try clear hx104_0
            try clear p1
            try clear p103
            try clear p104
            try clear p2
            try clear q1
            try clear q103
            try clear q104
            obtain ⟨kq, x31_7, rfl, HA, HJ7, HB⟩ := hcut
            cases kq with
            | zero => exact absurd HA.out (by simp [compact_Take.j1])
            | succ kj7 =>
              have H := HA.out
              clear HA
              simp only [compact_Take.j1] at H
              by_cases c10 : x31_7 = true
              · subst c10
                have H1 : (some (0, 0, false)) = some (r1, r2, r3) := by rw [if_pos rfl] at H; exact H
                clear H
                have H := H1
                clear H1
                simp only [Option.some.injEq, Prod.mk.injEq] at H
                obtain ⟨rfl, rfl, rfl⟩ := H
                go_wp2
                go_ret3
                exact ⟨by first | rfl | (simp [errW_none, errW_some] <;> rfl) | (simp [*, errW_none, errW_some] <;> rfl), by repeat (first | (with_reducible first | exact HB.out | apply below_alloc | apply pw_below_drewN | apply below_drew1) | exact HB.out)⟩
              · replace c10 := Bool.eq_false_iff.mpr c10
                subst c10
                have H1 : (if 0 < (l0.length : Int) then (if (Int.tmod (rd l0 0) 4) = 3 then (if 1 ≤ x3_3 then (if x3_3 ≤ (l0.length : Int) then ((compact_number.f ((l0.take (x3_3 : Int).toNat).drop 1)).bind fun t107 => (if t107 < 0 then (some (0, 0, false)) else (if t107 > 4611686018427387904 then (some (0, 0, false)) else ((compact_Size.f kj7 t107).bind fun t108 => (if t108 = x3_3 then (some (t107, x3_3, true)) else (some (0, 0, false))))))) else (none)) else (none)) else (if 0 ≤ x3_3 then (if x3_3 ≤ (l0.length : Int) then ((compact_number.f (l0.take (x3_3 : Int).toNat)).bind fun t110 => (if (wrap64 (Int.tdiv t110 4)) < 0 then (some (0, 0, false)) else (if (wrap64 (Int.tdiv t110 4)) > 4611686018427387904 then (some (0, 0, false)) else ((compact_Size.f kj7 (wrap64 (Int.tdiv t110 4))).bind fun t111 => (if t111 = x3_3 then (some (wrap64 (Int.tdiv t110 4), x3_3, true)) else (some (0, 0, false))))))) else (none)) else (none))) else (none)) = some (r1, r2, r3) := by rw [if_neg (show ¬ (false = true) by decide)] at H; exact H
                clear H
                have H := H1
                clear H1
                by_cases c11 : 0 < (l0.length : Int)
                · rw [if_pos c11] at H
                  have c11b0 : decide (0 < (l0.length : Int)) = true := decide_eq_true c11
                  have c11b1 : decide (0 < l0.length) = true := decide_eq_true (by omega)
                  clear c11
                  by_cases c12 : (Int.tmod (rd l0 0) 4) = 3
                  · rw [if_pos c12] at H
                    have c12b0 : ((Int.tmod (rd l0 0) 4) == 3) = true := beq_iff_eq.mpr c12
                    have c12b1 : ((Int.tmod (rd l0 0) 4) != 3) = false := bne_eq_false_iff_eq.mpr c12
                    clear c12
                    by_cases c13 : 1 ≤ x3_3
                    · rw [if_pos c13] at H
                      have c13b0 := eq_true c13
                      have c13b1 : decide (1 ≤ x3_3) = true := decide_eq_true c13
                      clear c13
                      by_cases c14 : x3_3 ≤ (l0.length : Int)
                      · rw [if_pos c14] at H
                        have c14b0 := eq_true c14
                        have c14b1 : decide (x3_3 ≤ (l0.length : Int)) = true := decide_eq_true c14
                        clear c14
                        replace H := Option.bind_eq_some_iff.mp H
                        obtain ⟨t107, A150, H⟩ := H
                        replace H : (if t107 < 0 then (some (0, 0, false)) else (if t107 > 4611686018427387904 then (some (0, 0, false)) else ((compact_Size.f kj7 t107).bind fun t108 => (if t108 = x3_3 then (some (t107, x3_3, true)) else (some (0, 0, false)))))) = some (r1, r2, r3) := H
                        have A15 := Aside0.mk A150
                        clear A150
                        by_cases c16 : t107 < 0
                        · rw [if_pos c16] at H
                          have c16b0 : decide (t107 < 0) = true := decide_eq_true c16
                          clear c16
                          simp only [Option.some.injEq, Prod.mk.injEq] at H
                          obtain ⟨rfl, rfl, rfl⟩ := H
                          have p105 : 0 ≤ (0 : Int) := (by omega)
                          have q105 : 0 < (l0.length : Int) := of_decide_eq_true (by first | (with_reducible assumption) | assumption)
                          obtain ⟨ad105, e105, hx105_0⟩ := Kd.at_int HR0.out 0 p105 q105
                          obtain rfl : ad103 = ad105 := (by injection e105)
                          have qi105 : (0 < l0.length) = True := eq_true (by omega)
                          (try rw [show ((0 : Int)).toNat = 0 from rfl] at hx105_0)
                          (try rw [Addr.add_zero'] at hx105_0)
                          replace hx105_0 := (HB.out.cell (World.block_lt_of_cell? w _ hx105_0)).trans hx105_0
                          replace p105 := eq_true p105
                          replace q105 := eq_true q105
                          obtain ⟨i017, hi017, _, hsz17, _⟩ := info_parts info5
                          obtain ⟨A17, hcut17, hA17, hC17⟩ := print_mid_of (P := Tryz.prog) (Value.int .u8) 0 50 5 .i64 .i64 Tryz.underlying50 hi017 hsz17 (some ad103) c0 l0 1 x3_3 (by omega) (by first | omega | exact of_decide_eq_true (by first | (with_reducible assumption) | assumption)) (of_decide_eq_true (by first | (with_reducible assumption) | assumption)) HC0.out
                          have HR106 := Aside0.mk (Kd.C_of_reads (h1 := fun _ => rfl) (hA17 _ (Kd.reads_of_C HR0.out)))
                          have HC106 := Aside0.mk hC17
                          clear hA17 hC17 hi017 hsz17
                          go_wp2_with (first | ((with_reducible refine gate_callee (f := 198) rfl ?_); refine goesL_ (some 40) rfl rfl Tryz.func198 (by kernel_rfl) rfl #[.slice A17 ((l0.take (x3_3 : Int).toNat).drop 1).length (c0 - 1)] rfl (by (try simp only [List.map_toArray, List.map_cons, List.map_nil]); first | done | (rw [show ((l0.take (x3_3 : Int).toNat).drop 1).length = (x3_3.toNat - 1) from (by rw [List.length_drop, List.length_take]; have h_ : (x3_3 : Int) ≤ (l0.length : Int) := of_decide_eq_true (by first | (with_reducible assumption) | assumption); omega)] <;> rfl) | rfl | (simp only [List.length_drop, List.length_take]; rfl)) ?_; (with_reducible refine (compact_number.calls _ _ ((l0.take (x3_3 : Int).toNat).drop 1) t107 _ ?side1 ?side2 A15.out).mono ?_); (case side1 => repeat (first | exact (Kd.C_below HR106.out HB.out) | (with_reducible refine Kd.C_alloc ?_ _) | (with_reducible refine Kd.C_drewN ?_ _) | (with_reducible refine Kd.C_drew ?_))); (case side2 => exact HC106.out); rintro e w18 ⟨rfl, hb⟩; refine ⟨_, rfl, ?_⟩; have n0_ := Aside0.mk (below_step (by repeat (first | (with_reducible first | exact HB.out | apply below_alloc | apply pw_below_drewN | apply below_drew1) | exact HB.out)) hb); clear HB; have HB := n0_; clear n0_; (try clear hb); (try clear hb2); (try clear hk); (try clear hi)))
                          go_ret3
                          exact ⟨by first | rfl | (simp [errW_none, errW_some] <;> rfl) | (simp [*, errW_none, errW_some] <;> rfl), by repeat (first | (with_reducible first | exact HB.out | apply below_alloc | apply pw_below_drewN | apply below_drew1) | exact HB.out)⟩
                        · rw [if_neg c16] at H
                          have c16b0 : decide (t107 < 0) = false := decide_eq_false c16
                          clear c16
                          by_cases c19 : t107 > 4611686018427387904
                          · rw [if_pos c19] at H
                            have c19b0 : decide (4611686018427387904 < t107) = true := decide_eq_true c19
                            clear c19
                            simp only [Option.some.injEq, Prod.mk.injEq] at H
                            obtain ⟨rfl, rfl, rfl⟩ := H
                            have p105 : 0 ≤ (0 : Int) := (by omega)
                            have q105 : 0 < (l0.length : Int) := of_decide_eq_true (by first | (with_reducible assumption) | assumption)
                            obtain ⟨ad105, e105, hx105_0⟩ := Kd.at_int HR0.out 0 p105 q105
                            obtain rfl : ad103 = ad105 := (by injection e105)
                            have qi105 : (0 < l0.length) = True := eq_true (by omega)
                            (try rw [show ((0 : Int)).toNat = 0 from rfl] at hx105_0)
                            (try rw [Addr.add_zero'] at hx105_0)
                            replace hx105_0 := (HB.out.cell (World.block_lt_of_cell? w _ hx105_0)).trans hx105_0
                            replace p105 := eq_true p105
                            replace q105 := eq_true q105
                            obtain ⟨i020, hi020, _, hsz20, _⟩ := info_parts info5
                            obtain ⟨A20, hcut20, hA20, hC20⟩ := print_mid_of (P := Tryz.prog) (Value.int .u8) 0 50 5 .i64 .i64 Tryz.underlying50 hi020 hsz20 (some ad103) c0 l0 1 x3_3 (by omega) (by first | omega | exact of_decide_eq_true (by first | (with_reducible assumption) | assumption)) (of_decide_eq_true (by first | (with_reducible assumption) | assumption)) HC0.out
                            have HR106 := Aside0.mk (Kd.C_of_reads (h1 := fun _ => rfl) (hA20 _ (Kd.reads_of_C HR0.out)))
                            have HC106 := Aside0.mk hC20
                            clear hA20 hC20 hi020 hsz20
                            go_wp2_with (first | ((with_reducible refine gate_callee (f := 198) rfl ?_); refine goesL_ (some 40) rfl rfl Tryz.func198 (by kernel_rfl) rfl #[.slice A20 ((l0.take (x3_3 : Int).toNat).drop 1).length (c0 - 1)] rfl (by (try simp only [List.map_toArray, List.map_cons, List.map_nil]); first | done | (rw [show ((l0.take (x3_3 : Int).toNat).drop 1).length = (x3_3.toNat - 1) from (by rw [List.length_drop, List.length_take]; have h_ : (x3_3 : Int) ≤ (l0.length : Int) := of_decide_eq_true (by first | (with_reducible assumption) | assumption); omega)] <;> rfl) | rfl | (simp only [List.length_drop, List.length_take]; rfl)) ?_; (with_reducible refine (compact_number.calls _ _ ((l0.take (x3_3 : Int).toNat).drop 1) t107 _ ?side1 ?side2 A15.out).mono ?_); (case side1 => repeat (first | exact (Kd.C_below HR106.out HB.out) | (with_reducible refine Kd.C_alloc ?_ _) | (with_reducible refine Kd.C_drewN ?_ _) | (with_reducible refine Kd.C_drew ?_))); (case side2 => exact HC106.out); rintro e w21 ⟨rfl, hb⟩; refine ⟨_, rfl, ?_⟩; have n0_ := Aside0.mk (below_step (by repeat (first | (with_reducible first | exact HB.out | apply below_alloc | apply pw_below_drewN | apply below_drew1) | exact HB.out)) hb); clear HB; have HB := n0_; clear n0_; (try clear hb); (try clear hb2); (try clear hk); (try clear hi)))
                            go_ret3
                            exact ⟨by first | rfl | (simp [errW_none, errW_some] <;> rfl) | (simp [*, errW_none, errW_some] <;> rfl), by repeat (first | (with_reducible first | exact HB.out | apply below_alloc | apply pw_below_drewN | apply below_drew1) | exact HB.out)⟩
                          · rw [if_neg c19] at H
                            have c19b0 : decide (4611686018427387904 < t107) = false := decide_eq_false c19
                            clear c19
                            replace H := Option.bind_eq_some_iff.mp H
                            obtain ⟨t108, A220, H⟩ := H
                            replace H : (if t108 = x3_3 then (some (t107, x3_3, true)) else (some (0, 0, false))) = some (r1, r2, r3) := H
                            have A22 := Aside0.mk A220
                            clear A220
                            by_cases c23 : t108 = x3_3
                            · rw [if_pos c23] at H
                              have c23b0 : (t108 == x3_3) = true := beq_iff_eq.mpr c23
                              have c23b1 : (t108 != x3_3) = false := bne_eq_false_iff_eq.mpr c23
                              clear c23
                              simp only [Option.some.injEq, Prod.mk.injEq] at H
                              obtain ⟨rfl, rfl, rfl⟩ := H
                              have p105 : 0 ≤ (0 : Int) := (by omega)
                              have q105 : 0 < (l0.length : Int) := of_decide_eq_true (by first | (with_reducible assumption) | assumption)
                              obtain ⟨ad105, e105, hx105_0⟩ := Kd.at_int HR0.out 0 p105 q105
                              obtain rfl : ad103 = ad105 := (by injection e105)
                              have qi105 : (0 < l0.length) = True := eq_true (by omega)
                              (try rw [show ((0 : Int)).toNat = 0 from rfl] at hx105_0)
                              (try rw [Addr.add_zero'] at hx105_0)
                              replace hx105_0 := (HB.out.cell (World.block_lt_of_cell? w _ hx105_0)).trans hx105_0
                              replace p105 := eq_true p105
                              replace q105 := eq_true q105
                              obtain ⟨i024, hi024, _, hsz24, _⟩ := info_parts info5
                              obtain ⟨A24, hcut24, hA24, hC24⟩ := print_mid_of (P := Tryz.prog) (Value.int .u8) 0 50 5 .i64 .i64 Tryz.underlying50 hi024 hsz24 (some ad103) c0 l0 1 x3_3 (by omega) (by first | omega | exact of_decide_eq_true (by first | (with_reducible assumption) | assumption)) (of_decide_eq_true (by first | (with_reducible assumption) | assumption)) HC0.out
                              have HR106 := Aside0.mk (Kd.C_of_reads (h1 := fun _ => rfl) (hA24 _ (Kd.reads_of_C HR0.out)))
                              have HC106 := Aside0.mk hC24
                              clear hA24 hC24 hi024 hsz24
                              go_wp2_with (first | ((with_reducible refine gate_callee (f := 198) rfl ?_); refine goesL_ (some 40) rfl rfl Tryz.func198 (by kernel_rfl) rfl #[.slice A24 ((l0.take (x3_3 : Int).toNat).drop 1).length (c0 - 1)] rfl (by (try simp only [List.map_toArray, List.map_cons, List.map_nil]); first | done | (rw [show ((l0.take (x3_3 : Int).toNat).drop 1).length = (x3_3.toNat - 1) from (by rw [List.length_drop, List.length_take]; have h_ : (x3_3 : Int) ≤ (l0.length : Int) := of_decide_eq_true (by first | (with_reducible assumption) | assumption); omega)] <;> rfl) | rfl | (simp only [List.length_drop, List.length_take]; rfl)) ?_; (with_reducible refine (compact_number.calls _ _ ((l0.take (x3_3 : Int).toNat).drop 1) t107 _ ?side1 ?side2 A15.out).mono ?_); (case side1 => repeat (first | exact (Kd.C_below HR106.out HB.out) | (with_reducible refine Kd.C_alloc ?_ _) | (with_reducible refine Kd.C_drewN ?_ _) | (with_reducible refine Kd.C_drew ?_))); (case side2 => exact HC106.out); rintro e w25 ⟨rfl, hb⟩; refine ⟨_, rfl, ?_⟩; have n0_ := Aside0.mk (below_step (by repeat (first | (with_reducible first | exact HB.out | apply below_alloc | apply pw_below_drewN | apply below_drew1) | exact HB.out)) hb); clear HB; have HB := n0_; clear n0_; (try clear hb); (try clear hb2); (try clear hk); (try clear hi)) | (go_at_call 53; (with_reducible refine (compact_Size.calls kj7 t107 t108 _ A22.out).mono ?_); rintro e w26 ⟨rfl, hb⟩; have n0_ := Aside0.mk (below_step (by repeat (first | (with_reducible first | exact HB.out | apply below_alloc | apply pw_below_drewN | apply below_drew1) | exact HB.out)) hb); clear HB; have HB := n0_; clear n0_; (try clear hb); (try clear hb2); (try clear hk); (try clear hi)))
                              go_ret3
                              exact ⟨by first | rfl | (simp [errW_none, errW_some] <;> rfl) | (simp [*, errW_none, errW_some] <;> rfl), by repeat (first | (with_reducible first | exact HB.out | apply below_alloc | apply pw_below_drewN | apply below_drew1) | exact HB.out)⟩
                            · rw [if_neg c23] at H
                              have c23b0 : (t108 == x3_3) = false := beq_eq_false_iff_ne.mpr c23
                              have c23b1 : (t108 != x3_3) = true := bne_iff_ne.mpr c23
                              simp only [Option.some.injEq, Prod.mk.injEq] at H
                              obtain ⟨rfl, rfl, rfl⟩ := H
                              have p105 : 0 ≤ (0 : Int) := (by omega)
                              have q105 : 0 < (l0.length : Int) := of_decide_eq_true (by first | (with_reducible assumption) | assumption)
                              obtain ⟨ad105, e105, hx105_0⟩ := Kd.at_int HR0.out 0 p105 q105
                              obtain rfl : ad103 = ad105 := (by injection e105)
                              have qi105 : (0 < l0.length) = True := eq_true (by omega)
                              (try rw [show ((0 : Int)).toNat = 0 from rfl] at hx105_0)
                              (try rw [Addr.add_zero'] at hx105_0)
                              replace hx105_0 := (HB.out.cell (World.block_lt_of_cell? w _ hx105_0)).trans hx105_0
                              replace p105 := eq_true p105
                              replace q105 := eq_true q105
                              obtain ⟨i027, hi027, _, hsz27, _⟩ := info_parts info5
                              obtain ⟨A27, hcut27, hA27, hC27⟩ := print_mid_of (P := Tryz.prog) (Value.int .u8) 0 50 5 .i64 .i64 Tryz.underlying50 hi027 hsz27 (some ad103) c0 l0 1 x3_3 (by omega) (by first | omega | exact of_decide_eq_true (by first | (with_reducible assumption) | assumption)) (of_decide_eq_true (by first | (with_reducible assumption) | assumption)) HC0.out
                              have HR106 := Aside0.mk (Kd.C_of_reads (h1 := fun _ => rfl) (hA27 _ (Kd.reads_of_C HR0.out)))
                              have HC106 := Aside0.mk hC27
                              clear hA27 hC27 hi027 hsz27
                              go_wp2_with (first | ((with_reducible refine gate_callee (f := 198) rfl ?_); refine goesL_ (some 40) rfl rfl Tryz.func198 (by kernel_rfl) rfl #[.slice A27 ((l0.take (x3_3 : Int).toNat).drop 1).length (c0 - 1)] rfl (by (try simp only [List.map_toArray, List.map_cons, List.map_nil]); first | done | (rw [show ((l0.take (x3_3 : Int).toNat).drop 1).length = (x3_3.toNat - 1) from (by rw [List.length_drop, List.length_take]; have h_ : (x3_3 : Int) ≤ (l0.length : Int) := of_decide_eq_true (by first | (with_reducible assumption) | assumption); omega)] <;> rfl) | rfl | (simp only [List.length_drop, List.length_take]; rfl)) ?_; (with_reducible refine (compact_number.calls _ _ ((l0.take (x3_3 : Int).toNat).drop 1) t107 _ ?side1 ?side2 A15.out).mono ?_); (case side1 => repeat (first | exact (Kd.C_below HR106.out HB.out) | (with_reducible refine Kd.C_alloc ?_ _) | (with_reducible refine Kd.C_drewN ?_ _) | (with_reducible refine Kd.C_drew ?_))); (case side2 => exact HC106.out); rintro e w28 ⟨rfl, hb⟩; refine ⟨_, rfl, ?_⟩; have n0_ := Aside0.mk (below_step (by repeat (first | (with_reducible first | exact HB.out | apply below_alloc | apply pw_below_drewN | apply below_drew1) | exact HB.out)) hb); clear HB; have HB := n0_; clear n0_; (try clear hb); (try clear hb2); (try clear hk); (try clear hi)) | (go_at_call 53; (with_reducible refine (compact_Size.calls kj7 t107 t108 _ A22.out).mono ?_); rintro e w29 ⟨rfl, hb⟩; have n0_ := Aside0.mk (below_step (by repeat (first | (with_reducible first | exact HB.out | apply below_alloc | apply pw_below_drewN | apply below_drew1) | exact HB.out)) hb); clear HB; have HB := n0_; clear n0_; (try clear hb); (try clear hb2); (try clear hk); (try clear hi)))
                              go_ret3
                              exact ⟨by first | rfl | (simp [errW_none, errW_some] <;> rfl) | (simp [*, errW_none, errW_some] <;> rfl), by repeat (first | (with_reducible first | exact HB.out | apply below_alloc | apply pw_below_drewN | apply below_drew1) | exact HB.out)⟩
                      · rw [if_neg c14] at H
                        exact absurd H (by simp)
                    · rw [if_neg c13] at H
                      exact absurd H (by simp)
                  · rw [if_neg c12] at H
                    have c12b0 : ((Int.tmod (rd l0 0) 4) == 3) = false := beq_eq_false_iff_ne.mpr c12
                    have c12b1 : ((Int.tmod (rd l0 0) 4) != 3) = true := bne_iff_ne.mpr c12
                    by_cases c30 : 0 ≤ x3_3
                    · rw [if_pos c30] at H
                      have c30b0 := eq_true c30
                      have c30b1 : decide (0 ≤ x3_3) = true := decide_eq_true c30
                      clear c30
                      by_cases c31 : x3_3 ≤ (l0.length : Int)
                      · rw [if_pos c31] at H
                        have c31b0 := eq_true c31
                        have c31b1 : decide (x3_3 ≤ (l0.length : Int)) = true := decide_eq_true c31
                        clear c31
                        replace H := Option.bind_eq_some_iff.mp H
                        obtain ⟨t110, A320, H⟩ := H
                        replace H : (if (wrap64 (Int.tdiv t110 4)) < 0 then (some (0, 0, false)) else (if (wrap64 (Int.tdiv t110 4)) > 4611686018427387904 then (some (0, 0, false)) else ((compact_Size.f kj7 (wrap64 (Int.tdiv t110 4))).bind fun t111 => (if t111 = x3_3 then (some (wrap64 (Int.tdiv t110 4), x3_3, true)) else (some (0, 0, false)))))) = some (r1, r2, r3) := H
                        have A32 := Aside0.mk A320
                        clear A320
                        by_cases c33 : (wrap64 (Int.tdiv t110 4)) < 0
                        · rw [if_pos c33] at H
                          have c33b0 : decide ((wrap64 (Int.tdiv t110 4)) < 0) = true := decide_eq_true c33
                          clear c33
                          simp only [Option.some.injEq, Prod.mk.injEq] at H
                          obtain ⟨rfl, rfl, rfl⟩ := H
                          have p105 : 0 ≤ (0 : Int) := (by omega)
                          have q105 : 0 < (l0.length : Int) := of_decide_eq_true (by first | (with_reducible assumption) | assumption)
                          obtain ⟨ad105, e105, hx105_0⟩ := Kd.at_int HR0.out 0 p105 q105
                          obtain rfl : ad103 = ad105 := (by injection e105)
                          have qi105 : (0 < l0.length) = True := eq_true (by omega)
                          (try rw [show ((0 : Int)).toNat = 0 from rfl] at hx105_0)
                          (try rw [Addr.add_zero'] at hx105_0)
                          replace hx105_0 := (HB.out.cell (World.block_lt_of_cell? w _ hx105_0)).trans hx105_0
                          replace p105 := eq_true p105
                          replace q105 := eq_true q105
                          obtain ⟨i034, hi034, _, hsz34, _⟩ := info_parts info5
                          obtain ⟨hcut34, hA34, hC34⟩ := print_take_of (P := Tryz.prog) (Value.int .u8) 0 50 5 .i64 Tryz.underlying50 hi034 hsz34 (some ad103) c0 l0 x3_3 (of_decide_eq_true (by first | (with_reducible assumption) | assumption)) (of_decide_eq_true (by first | (with_reducible assumption) | assumption)) HC0.out
                          have HR109 := Aside0.mk (Kd.C_of_reads (h1 := fun _ => rfl) (hA34 _ (Kd.reads_of_C HR0.out)))
                          have HC109 := Aside0.mk hC34
                          clear hA34 hC34 hi034 hsz34
                          go_wp2_with (first | ((with_reducible refine gate_callee (f := 198) rfl ?_); refine goesL_ (some 44) rfl rfl Tryz.func198 (by kernel_rfl) rfl #[.slice (some ad103) (l0.take (x3_3 : Int).toNat).length c0] rfl (by (try simp only [List.map_toArray, List.map_cons, List.map_nil]); first | done | (rw [show (l0.take (x3_3 : Int).toNat).length = x3_3.toNat from (by rw [List.length_take]; have h_ : (x3_3 : Int) ≤ (l0.length : Int) := of_decide_eq_true (by first | (with_reducible assumption) | assumption); omega)] <;> rfl) | rfl | (simp only [List.length_drop, List.length_take]; rfl)) ?_; (with_reducible refine (compact_number.calls _ _ (l0.take (x3_3 : Int).toNat) t110 _ ?side1 ?side2 A32.out).mono ?_); (case side1 => repeat (first | exact (Kd.C_below HR109.out HB.out) | (with_reducible refine Kd.C_alloc ?_ _) | (with_reducible refine Kd.C_drewN ?_ _) | (with_reducible refine Kd.C_drew ?_))); (case side2 => exact HC109.out); rintro e w35 ⟨rfl, hb⟩; refine ⟨_, rfl, ?_⟩; have n0_ := Aside0.mk (below_step (by repeat (first | (with_reducible first | exact HB.out | apply below_alloc | apply pw_below_drewN | apply below_drew1) | exact HB.out)) hb); clear HB; have HB := n0_; clear n0_; (try clear hb); (try clear hb2); (try clear hk); (try clear hi)))
                          go_ret3
                          exact ⟨by first | rfl | (simp [errW_none, errW_some] <;> rfl) | (simp [*, errW_none, errW_some] <;> rfl), by repeat (first | (with_reducible first | exact HB.out | apply below_alloc | apply pw_below_drewN | apply below_drew1) | exact HB.out)⟩
                        · rw [if_neg c33] at H
                          have c33b0 : decide ((wrap64 (Int.tdiv t110 4)) < 0) = false := decide_eq_false c33
                          clear c33
                          by_cases c36 : (wrap64 (Int.tdiv t110 4)) > 4611686018427387904
                          · rw [if_pos c36] at H
                            have c36b0 : decide (4611686018427387904 < (wrap64 (Int.tdiv t110 4))) = true := decide_eq_true c36
                            clear c36
                            simp only [Option.some.injEq, Prod.mk.injEq] at H
                            obtain ⟨rfl, rfl, rfl⟩ := H
                            have p105 : 0 ≤ (0 : Int) := (by omega)
                            have q105 : 0 < (l0.length : Int) := of_decide_eq_true (by first | (with_reducible assumption) | assumption)
                            obtain ⟨ad105, e105, hx105_0⟩ := Kd.at_int HR0.out 0 p105 q105
                            obtain rfl : ad103 = ad105 := (by injection e105)
                            have qi105 : (0 < l0.length) = True := eq_true (by omega)
                            (try rw [show ((0 : Int)).toNat = 0 from rfl] at hx105_0)
                            (try rw [Addr.add_zero'] at hx105_0)
                            replace hx105_0 := (HB.out.cell (World.block_lt_of_cell? w _ hx105_0)).trans hx105_0
                            replace p105 := eq_true p105
                            replace q105 := eq_true q105
                            obtain ⟨i037, hi037, _, hsz37, _⟩ := info_parts info5
                            obtain ⟨hcut37, hA37, hC37⟩ := print_take_of (P := Tryz.prog) (Value.int .u8) 0 50 5 .i64 Tryz.underlying50 hi037 hsz37 (some ad103) c0 l0 x3_3 (of_decide_eq_true (by first | (with_reducible assumption) | assumption)) (of_decide_eq_true (by first | (with_reducible assumption) | assumption)) HC0.out
                            have HR109 := Aside0.mk (Kd.C_of_reads (h1 := fun _ => rfl) (hA37 _ (Kd.reads_of_C HR0.out)))
                            have HC109 := Aside0.mk hC37
                            clear hA37 hC37 hi037 hsz37
                            go_wp2_with (first | ((with_reducible refine gate_callee (f := 198) rfl ?_); refine goesL_ (some 44) rfl rfl Tryz.func198 (by kernel_rfl) rfl #[.slice (some ad103) (l0.take (x3_3 : Int).toNat).length c0] rfl (by (try simp only [List.map_toArray, List.map_cons, List.map_nil]); first | done | (rw [show (l0.take (x3_3 : Int).toNat).length = x3_3.toNat from (by rw [List.length_take]; have h_ : (x3_3 : Int) ≤ (l0.length : Int) := of_decide_eq_true (by first | (with_reducible assumption) | assumption); omega)] <;> rfl) | rfl | (simp only [List.length_drop, List.length_take]; rfl)) ?_; (with_reducible refine (compact_number.calls _ _ (l0.take (x3_3 : Int).toNat) t110 _ ?side1 ?side2 A32.out).mono ?_); (case side1 => repeat (first | exact (Kd.C_below HR109.out HB.out) | (with_reducible refine Kd.C_alloc ?_ _) | (with_reducible refine Kd.C_drewN ?_ _) | (with_reducible refine Kd.C_drew ?_))); (case side2 => exact HC109.out); rintro e w38 ⟨rfl, hb⟩; refine ⟨_, rfl, ?_⟩; have n0_ := Aside0.mk (below_step (by repeat (first | (with_reducible first | exact HB.out | apply below_alloc | apply pw_below_drewN | apply below_drew1) | exact HB.out)) hb); clear HB; have HB := n0_; clear n0_; (try clear hb); (try clear hb2); (try clear hk); (try clear hi)))
                            go_ret3
                            exact ⟨by first | rfl | (simp [errW_none, errW_some] <;> rfl) | (simp [*, errW_none, errW_some] <;> rfl), by repeat (first | (with_reducible first | exact HB.out | apply below_alloc | apply pw_below_drewN | apply below_drew1) | exact HB.out)⟩
                          · rw [if_neg c36] at H
                            have c36b0 : decide (4611686018427387904 < (wrap64 (Int.tdiv t110 4))) = false := decide_eq_false c36
                            clear c36
                            replace H := Option.bind_eq_some_iff.mp H
                            obtain ⟨t111, A390, H⟩ := H
                            replace H : (if t111 = x3_3 then (some (wrap64 (Int.tdiv t110 4), x3_3, true)) else (some (0, 0, false))) = some (r1, r2, r3) := H
                            have A39 := Aside0.mk A390
                            clear A390
                            by_cases c40 : t111 = x3_3
                            · rw [if_pos c40] at H
                              have c40b0 : (t111 == x3_3) = true := beq_iff_eq.mpr c40
                              have c40b1 : (t111 != x3_3) = false := bne_eq_false_iff_eq.mpr c40
                              clear c40
                              simp only [Option.some.injEq, Prod.mk.injEq] at H
                              obtain ⟨rfl, rfl, rfl⟩ := H
                              have p105 : 0 ≤ (0 : Int) := (by omega)
                              have q105 : 0 < (l0.length : Int) := of_decide_eq_true (by first | (with_reducible assumption) | assumption)
                              obtain ⟨ad105, e105, hx105_0⟩ := Kd.at_int HR0.out 0 p105 q105
                              obtain rfl : ad103 = ad105 := (by injection e105)
                              have qi105 : (0 < l0.length) = True := eq_true (by omega)
                              (try rw [show ((0 : Int)).toNat = 0 from rfl] at hx105_0)
                              (try rw [Addr.add_zero'] at hx105_0)
                              replace hx105_0 := (HB.out.cell (World.block_lt_of_cell? w _ hx105_0)).trans hx105_0
                              replace p105 := eq_true p105
                              replace q105 := eq_true q105
                              obtain ⟨i041, hi041, _, hsz41, _⟩ := info_parts info5
                              obtain ⟨hcut41, hA41, hC41⟩ := print_take_of (P := Tryz.prog) (Value.int .u8) 0 50 5 .i64 Tryz.underlying50 hi041 hsz41 (some ad103) c0 l0 x3_3 (of_decide_eq_true (by first | (with_reducible assumption) | assumption)) (of_decide_eq_true (by first | (with_reducible assumption) | assumption)) HC0.out
                              have HR109 := Aside0.mk (Kd.C_of_reads (h1 := fun _ => rfl) (hA41 _ (Kd.reads_of_C HR0.out)))
                              have HC109 := Aside0.mk hC41
                              clear hA41 hC41 hi041 hsz41
                              go_wp2_with (first | ((with_reducible refine gate_callee (f := 198) rfl ?_); refine goesL_ (some 44) rfl rfl Tryz.func198 (by kernel_rfl) rfl #[.slice (some ad103) (l0.take (x3_3 : Int).toNat).length c0] rfl (by (try simp only [List.map_toArray, List.map_cons, List.map_nil]); first | done | (rw [show (l0.take (x3_3 : Int).toNat).length = x3_3.toNat from (by rw [List.length_take]; have h_ : (x3_3 : Int) ≤ (l0.length : Int) := of_decide_eq_true (by first | (with_reducible assumption) | assumption); omega)] <;> rfl) | rfl | (simp only [List.length_drop, List.length_take]; rfl)) ?_; (with_reducible refine (compact_number.calls _ _ (l0.take (x3_3 : Int).toNat) t110 _ ?side1 ?side2 A32.out).mono ?_); (case side1 => repeat (first | exact (Kd.C_below HR109.out HB.out) | (with_reducible refine Kd.C_alloc ?_ _) | (with_reducible refine Kd.C_drewN ?_ _) | (with_reducible refine Kd.C_drew ?_))); (case side2 => exact HC109.out); rintro e w42 ⟨rfl, hb⟩; refine ⟨_, rfl, ?_⟩; have n0_ := Aside0.mk (below_step (by repeat (first | (with_reducible first | exact HB.out | apply below_alloc | apply pw_below_drewN | apply below_drew1) | exact HB.out)) hb); clear HB; have HB := n0_; clear n0_; (try clear hb); (try clear hb2); (try clear hk); (try clear hi)) | (go_at_call 53; (with_reducible refine (compact_Size.calls kj7 (wrap64 (Int.tdiv t110 4)) t111 _ A39.out).mono ?_); rintro e w43 ⟨rfl, hb⟩; have n0_ := Aside0.mk (below_step (by repeat (first | (with_reducible first | exact HB.out | apply below_alloc | apply pw_below_drewN | apply below_drew1) | exact HB.out)) hb); clear HB; have HB := n0_; clear n0_; (try clear hb); (try clear hb2); (try clear hk); (try clear hi)))
                              go_ret3
                              exact ⟨by first | rfl | (simp [errW_none, errW_some] <;> rfl) | (simp [*, errW_none, errW_some] <;> rfl), by repeat (first | (with_reducible first | exact HB.out | apply below_alloc | apply pw_below_drewN | apply below_drew1) | exact HB.out)⟩
                            · rw [if_neg c40] at H
                              have c40b0 : (t111 == x3_3) = false := beq_eq_false_iff_ne.mpr c40
                              have c40b1 : (t111 != x3_3) = true := bne_iff_ne.mpr c40
                              simp only [Option.some.injEq, Prod.mk.injEq] at H
                              obtain ⟨rfl, rfl, rfl⟩ := H
                              have p105 : 0 ≤ (0 : Int) := (by omega)
                              have q105 : 0 < (l0.length : Int) := of_decide_eq_true (by first | (with_reducible assumption) | assumption)
                              obtain ⟨ad105, e105, hx105_0⟩ := Kd.at_int HR0.out 0 p105 q105
                              obtain rfl : ad103 = ad105 := (by injection e105)
                              have qi105 : (0 < l0.length) = True := eq_true (by omega)
                              (try rw [show ((0 : Int)).toNat = 0 from rfl] at hx105_0)
                              (try rw [Addr.add_zero'] at hx105_0)
                              replace hx105_0 := (HB.out.cell (World.block_lt_of_cell? w _ hx105_0)).trans hx105_0
                              replace p105 := eq_true p105
                              replace q105 := eq_true q105
                              obtain ⟨i044, hi044, _, hsz44, _⟩ := info_parts info5
                              obtain ⟨hcut44, hA44, hC44⟩ := print_take_of (P := Tryz.prog) (Value.int .u8) 0 50 5 .i64 Tryz.underlying50 hi044 hsz44 (some ad103) c0 l0 x3_3 (of_decide_eq_true (by first | (with_reducible assumption) | assumption)) (of_decide_eq_true (by first | (with_reducible assumption) | assumption)) HC0.out
                              have HR109 := Aside0.mk (Kd.C_of_reads (h1 := fun _ => rfl) (hA44 _ (Kd.reads_of_C HR0.out)))
                              have HC109 := Aside0.mk hC44
                              clear hA44 hC44 hi044 hsz44
                              go_wp2_with (first | ((with_reducible refine gate_callee (f := 198) rfl ?_); refine goesL_ (some 44) rfl rfl Tryz.func198 (by kernel_rfl) rfl #[.slice (some ad103) (l0.take (x3_3 : Int).toNat).length c0] rfl (by (try simp only [List.map_toArray, List.map_cons, List.map_nil]); first | done | (rw [show (l0.take (x3_3 : Int).toNat).length = x3_3.toNat from (by rw [List.length_take]; have h_ : (x3_3 : Int) ≤ (l0.length : Int) := of_decide_eq_true (by first | (with_reducible assumption) | assumption); omega)] <;> rfl) | rfl | (simp only [List.length_drop, List.length_take]; rfl)) ?_; (with_reducible refine (compact_number.calls _ _ (l0.take (x3_3 : Int).toNat) t110 _ ?side1 ?side2 A32.out).mono ?_); (case side1 => repeat (first | exact (Kd.C_below HR109.out HB.out) | (with_reducible refine Kd.C_alloc ?_ _) | (with_reducible refine Kd.C_drewN ?_ _) | (with_reducible refine Kd.C_drew ?_))); (case side2 => exact HC109.out); rintro e w45 ⟨rfl, hb⟩; refine ⟨_, rfl, ?_⟩; have n0_ := Aside0.mk (below_step (by repeat (first | (with_reducible first | exact HB.out | apply below_alloc | apply pw_below_drewN | apply below_drew1) | exact HB.out)) hb); clear HB; have HB := n0_; clear n0_; (try clear hb); (try clear hb2); (try clear hk); (try clear hi)) | (go_at_call 53; (with_reducible refine (compact_Size.calls kj7 (wrap64 (Int.tdiv t110 4)) t111 _ A39.out).mono ?_); rintro e w46 ⟨rfl, hb⟩; have n0_ := Aside0.mk (below_step (by repeat (first | (with_reducible first | exact HB.out | apply below_alloc | apply pw_below_drewN | apply below_drew1) | exact HB.out)) hb); clear HB; have HB := n0_; clear n0_; (try clear hb); (try clear hb2); (try clear hk); (try clear hi)))
                              go_ret3
                              exact ⟨by first | rfl | (simp [errW_none, errW_some] <;> rfl) | (simp [*, errW_none, errW_some] <;> rfl), by repeat (first | (with_reducible first | exact HB.out | apply below_alloc | apply pw_below_drewN | apply below_drew1) | exact HB.out)⟩
                      · rw [if_neg c31] at H
                        exact absurd H (by simp)
                    · rw [if_neg c30] at H
                      exact absurd H (by simp)
                · rw [if_neg c11] at H
                  exact absurd H (by simp)
    · rw [if_neg c3] at H
      exact absurd H (by simp)

/-! ### compact_Cut: function 89 -/
def compact_Cut.f (k : Nat) (l0 : List Int) : Option (List Int × Int × Bool) := (compact_Take.f k l0).bind fun bt112 => (if bt112.2.2 = true then (if bt112.1 > (wrap64 ((l0.length : Int) - bt112.2.1)) then (some (([] : List Int), 0, false)) else (if 0 ≤ bt112.2.1 then (if bt112.2.1 ≤ (wrap64 (bt112.2.1 + bt112.1)) then (if (wrap64 (bt112.2.1 + bt112.1)) ≤ (l0.length : Int) then ((slices_Clone_byte_byte.f ((l0.take ((wrap64 (bt112.2.1 + bt112.1)) : Int).toNat).drop (bt112.2.1 : Int).toNat)).bind fun t116 => (some (t116, wrap64 (bt112.2.1 + bt112.1), true))) else (none)) else (none)) else (none))) else (some (([] : List Int), 0, false)))
set_option maxHeartbeats 8000000 in
set_option maxRecDepth 100000 in
theorem compact_Cut.calls (k : Nat) (A0 : Option Addr) (c0 : Nat) (l0 : List Int) (r1 : List Int) (r2 : Int) (r3 : Bool) (w : World) (hr0 : Kd.C (Kd.int .u8) w A0 l0.length l0) (hc0 : l0.length ≤ c0) (h : compact_Cut.f k l0 = some (r1, r2, r3)) :
    Calls Tryz.prog 89 #[.slice A0 l0.length c0] w fun e w' => ∃ v0_ : Value, e = .returned (.tuple #[v0_, .int .i64 r2, .bool r3]) ∧ Kd.R (Kd.int .u8) 5 w' w.heap.size (fun _ => True) v0_ r1 ∧ Below w.heap.size w w' := by
  have HR0 := Aside0.mk hr0
  have HC0 := Aside0.mk hc0
  clear hr0 hc0
  have HB := Aside0.mk (Below.refl w.heap.size w)
  have H : ((compact_Take.f k l0).bind fun bt112 => (if bt112.2.2 = true then (if bt112.1 > (wrap64 ((l0.length : Int) - bt112.2.1)) then (some (([] : List Int), 0, false)) else (if 0 ≤ bt112.2.1 then (if bt112.2.1 ≤ (wrap64 (bt112.2.1 + bt112.1)) then (if (wrap64 (bt112.2.1 + bt112.1)) ≤ (l0.length : Int) then ((slices_Clone_byte_byte.f ((l0.take ((wrap64 (bt112.2.1 + bt112.1)) : Int).toNat).drop (bt112.2.1 : Int).toNat)).bind fun t116 => (some (t116, wrap64 (bt112.2.1 + bt112.1), true))) else (none)) else (none)) else (none))) else (some (([] : List Int), 0, false)))) = some (r1, r2, r3) := h
  clear h
  replace H := Option.bind_eq_some_iff.mp H
  obtain ⟨⟨t112, t113, t114⟩, A20, H⟩ := H
  replace H : (if t114 = true then (if t112 > (wrap64 ((l0.length : Int) - t113)) then (some (([] : List Int), 0, false)) else (if 0 ≤ t113 then (if t113 ≤ (wrap64 (t113 + t112)) then (if (wrap64 (t113 + t112)) ≤ (l0.length : Int) then ((slices_Clone_byte_byte.f ((l0.take ((wrap64 (t113 + t112)) : Int).toNat).drop (t113 : Int).toNat)).bind fun t116 => (some (t116, wrap64 (t113 + t112), true))) else (none)) else (none)) else (none))) else (some (([] : List Int), 0, false))) = some (r1, r2, r3) := H
  have A2 := Aside0.mk A20
  clear A20
  by_cases c3 : t114 = true
  · subst c3
    have H1 : (if t112 > (wrap64 ((l0.length : Int) - t113)) then (some (([] : List Int), 0, false)) else (if 0 ≤ t113 then (if t113 ≤ (wrap64 (t113 + t112)) then (if (wrap64 (t113 + t112)) ≤ (l0.length : Int) then ((slices_Clone_byte_byte.f ((l0.take ((wrap64 (t113 + t112)) : Int).toNat).drop (t113 : Int).toNat)).bind fun t116 => (some (t116, wrap64 (t113 + t112), true))) else (none)) else (none)) else (none))) = some (r1, r2, r3) := by rw [if_pos rfl] at H; exact H
    clear H
    have H := H1
    clear H1
    by_cases c4 : t112 > (wrap64 ((l0.length : Int) - t113))
    · rw [if_pos c4] at H
      have c4b0 : decide ((wrap64 ((l0.length : Int) - t113)) < t112) = true := decide_eq_true c4
      clear c4
      simp only [Option.some.injEq, Prod.mk.injEq] at H
      obtain ⟨rfl, rfl, rfl⟩ := H
      go_enter Tryz.func89, Tryz.ntmps89
      go_wp2_with (first | ((with_reducible refine gate_callee (f := 151) rfl ?_); refine goesL_ (some 9) rfl rfl Tryz.func151 (by kernel_rfl) rfl #[.slice A0 l0.length c0] rfl (by (try simp only [List.map_toArray, List.map_cons, List.map_nil]); first | done | rfl | (simp only [List.length_drop, List.length_take]; rfl)) ?_; (with_reducible refine (compact_Take.calls k _ _ l0 t112 t113 true _ ?side1 ?side2 A2.out).mono ?_); (case side1 => repeat (first | exact HR0.out | (with_reducible refine Kd.C_alloc ?_ _) | (with_reducible refine Kd.C_drewN ?_ _) | (with_reducible refine Kd.C_drew ?_))); (case side2 => exact HC0.out); rintro e w5 ⟨rfl, hb⟩; refine ⟨_, rfl, ?_⟩; have n0_ := Aside0.mk (below_step (by repeat (first | (with_reducible first | exact HB.out | apply below_alloc | apply pw_below_drewN | apply below_drew1) | exact HB.out)) hb); clear HB; have HB := n0_; clear n0_; (try clear hb); (try clear hb2); (try clear hk); (try clear hi)))
      go_ret3
      exact ⟨_, by first | rfl | (simp [errW_none, errW_some] <;> rfl) | (simp [*, errW_none, errW_some] <;> rfl), by first | exact Kd.R_nil _ _ _ _ _ | exact Kd.N_nil _ _ _ _ _ | exact Kd.V_nil _ _ _ _ _ | exact Kd.Q_nil _ _ _ _ _ | exact Kd.S_nil _ _ _ _ _, by repeat (first | (with_reducible first | exact HB.out | apply below_alloc | apply pw_below_drewN | apply below_drew1) | exact HB.out)⟩
    · rw [if_neg c4] at H
      have c4b0 : decide ((wrap64 ((l0.length : Int) - t113)) < t112) = false := decide_eq_false c4
      clear c4
      by_cases c6 : 0 ≤ t113
      · rw [if_pos c6] at H
        have c6b0 := eq_true c6
        have c6b1 : decide (0 ≤ t113) = true := decide_eq_true c6
        clear c6
        by_cases c7 : t113 ≤ (wrap64 (t113 + t112))
        · rw [if_pos c7] at H
          have c7b0 := eq_true c7
          have c7b1 : decide (t113 ≤ (wrap64 (t113 + t112))) = true := decide_eq_true c7
          by_cases c8 : (wrap64 (t113 + t112)) ≤ (l0.length : Int)
          · rw [if_pos c8] at H
            have c8b0 := eq_true c8
            have c8b1 : decide ((wrap64 (t113 + t112)) ≤ (l0.length : Int)) = true := decide_eq_true c8
            replace H := Option.bind_eq_some_iff.mp H
            obtain ⟨t116, A90, H⟩ := H
            replace H : (some (t116, wrap64 (t113 + t112), true)) = some (r1, r2, r3) := H
            have A9 := Aside0.mk A90
            clear A90
            simp only [Option.some.injEq, Prod.mk.injEq] at H
            obtain ⟨rfl, rfl, rfl⟩ := H
            go_enter Tryz.func89, Tryz.ntmps89
            go_wp2_with (first | ((with_reducible refine gate_callee (f := 151) rfl ?_); refine goesL_ (some 9) rfl rfl Tryz.func151 (by kernel_rfl) rfl #[.slice A0 l0.length c0] rfl (by (try simp only [List.map_toArray, List.map_cons, List.map_nil]); first | done | rfl | (simp only [List.length_drop, List.length_take]; rfl)) ?_; (with_reducible refine (compact_Take.calls k _ _ l0 t112 t113 true _ ?side1 ?side2 A2.out).mono ?_); (case side1 => repeat (first | exact HR0.out | (with_reducible refine Kd.C_alloc ?_ _) | (with_reducible refine Kd.C_drewN ?_ _) | (with_reducible refine Kd.C_drew ?_))); (case side2 => exact HC0.out); rintro e w10 ⟨rfl, hb⟩; refine ⟨_, rfl, ?_⟩; have n0_ := Aside0.mk (below_step (by repeat (first | (with_reducible first | exact HB.out | apply below_alloc | apply pw_below_drewN | apply below_drew1) | exact HB.out)) hb); clear HB; have HB := n0_; clear n0_; (try clear hb); (try clear hb2); (try clear hk); (try clear hi); obtain ⟨i011, hi011, _, hsz11, _⟩ := info_parts info5; obtain ⟨A11, hcut11, hA11, hC11⟩ := print_mid_of (P := Tryz.prog) (Value.int .u8) 0 50 5 .i64 .i64 Tryz.underlying50 hi011 hsz11 A0 c0 l0 t113 (wrap64 (t113 + t112)) (of_decide_eq_true (by first | (with_reducible assumption) | assumption)) (by first | omega | exact of_decide_eq_true (by first | (with_reducible assumption) | assumption)) (of_decide_eq_true (by first | (with_reducible assumption) | assumption)) HC0.out; have HR115 := Aside0.mk (Kd.C_of_reads (h1 := fun _ => rfl) (hA11 _ (Kd.reads_of_C HR0.out))); have HC115 := Aside0.mk hC11; clear hA11 hC11 hi011 hsz11) | ((with_reducible refine gate_callee (f := 90) rfl ?_); refine goesL_ (some 29) rfl rfl Tryz.func90 (by kernel_rfl) rfl #[.slice A11 ((l0.take ((wrap64 (t113 + t112)) : Int).toNat).drop (t113 : Int).toNat).length (c0 - t113.toNat)] rfl (by (try simp only [List.map_toArray, List.map_cons, List.map_nil]); first | done | (rw [show ((l0.take ((wrap64 (t113 + t112)) : Int).toNat).drop (t113 : Int).toNat).length = ((wrap64 (t113 + t112)).toNat - t113.toNat) from (by rw [List.length_drop, List.length_take]; have h_ : ((wrap64 (t113 + t112)) : Int) ≤ (l0.length : Int) := of_decide_eq_true (by first | (with_reducible assumption) | assumption); omega)] <;> rfl) | rfl | (simp only [List.length_drop, List.length_take]; rfl)) ?_; (with_reducible refine (slices_Clone_byte_byte.calls _ _ ((l0.take ((wrap64 (t113 + t112)) : Int).toNat).drop (t113 : Int).toNat) t116 _ ?side1 ?side2 A9.out).mono ?_); (case side1 => repeat (first | exact (Kd.C_below HR115.out HB.out) | (with_reducible refine Kd.C_alloc ?_ _) | (with_reducible refine Kd.C_drewN ?_ _) | (with_reducible refine Kd.C_drew ?_))); (case side2 => exact HC115.out); rintro e w12 ⟨v117, rfl, ho0, hb⟩; refine ⟨_, rfl, ?_⟩; have n0_ := Aside0.mk (Kd.R_lower ho0 (below_size (by repeat (first | (with_reducible first | exact HB.out | apply below_alloc | apply pw_below_drewN | apply below_drew1) | exact HB.out)))); have n1_ := Aside0.mk (below_step (by repeat (first | (with_reducible first | exact HB.out | apply below_alloc | apply pw_below_drewN | apply below_drew1) | exact HB.out)) hb); clear HB; have HO118 := n0_; have HB := n1_; clear n0_ n1_; (try clear hb); (try clear hb2); (try clear hk); (try clear hi); (try clear ho0)))
            go_ret3
            exact ⟨_, by first | rfl | (simp [errW_none, errW_some] <;> rfl) | (simp [*, errW_none, errW_some] <;> rfl), by (with_reducible repeat (first | apply Kd.R_alloc | apply Kd.R_drewN | apply Kd.R_drew)); exact HO118.out, by repeat (first | (with_reducible first | exact HB.out | apply below_alloc | apply pw_below_drewN | apply below_drew1) | exact HB.out)⟩
          · rw [if_neg c8] at H
            exact absurd H (by simp)
        · rw [if_neg c7] at H
          exact absurd H (by simp)
      · rw [if_neg c6] at H
        exact absurd H (by simp)
  · replace c3 := Bool.eq_false_iff.mpr c3
    subst c3
    have H1 : (some (([] : List Int), 0, false)) = some (r1, r2, r3) := by rw [if_neg (show ¬ (false = true) by decide)] at H; exact H
    clear H
    have H := H1
    clear H1
    simp only [Option.some.injEq, Prod.mk.injEq] at H
    obtain ⟨rfl, rfl, rfl⟩ := H
    go_enter Tryz.func89, Tryz.ntmps89
    go_wp2_with (first | ((with_reducible refine gate_callee (f := 151) rfl ?_); refine goesL_ (some 9) rfl rfl Tryz.func151 (by kernel_rfl) rfl #[.slice A0 l0.length c0] rfl (by (try simp only [List.map_toArray, List.map_cons, List.map_nil]); first | done | rfl | (simp only [List.length_drop, List.length_take]; rfl)) ?_; (with_reducible refine (compact_Take.calls k _ _ l0 t112 t113 false _ ?side1 ?side2 A2.out).mono ?_); (case side1 => repeat (first | exact HR0.out | (with_reducible refine Kd.C_alloc ?_ _) | (with_reducible refine Kd.C_drewN ?_ _) | (with_reducible refine Kd.C_drew ?_))); (case side2 => exact HC0.out); rintro e w13 ⟨rfl, hb⟩; refine ⟨_, rfl, ?_⟩; have n0_ := Aside0.mk (below_step (by repeat (first | (with_reducible first | exact HB.out | apply below_alloc | apply pw_below_drewN | apply below_drew1) | exact HB.out)) hb); clear HB; have HB := n0_; clear n0_; (try clear hb); (try clear hb2); (try clear hk); (try clear hi)))
    go_ret3
    exact ⟨_, by first | rfl | (simp [errW_none, errW_some] <;> rfl) | (simp [*, errW_none, errW_some] <;> rfl), by first | exact Kd.R_nil _ _ _ _ _ | exact Kd.N_nil _ _ _ _ _ | exact Kd.V_nil _ _ _ _ _ | exact Kd.Q_nil _ _ _ _ _ | exact Kd.S_nil _ _ _ _ _, by repeat (first | (with_reducible first | exact HB.out | apply below_alloc | apply pw_below_drewN | apply below_drew1) | exact HB.out)⟩

-- NOT PRINTED: function 44 (compact_Rows)

-- NOT PRINTED: function 21 (script_Rows)

end Go.Proofs.YtockdfnnhkhlkaaGreatDoor.G

-- Laid by this session's own program gprint.py over the kit's print (given functions are proved by hand).
namespace Go.Proofs.YtockdfnnhkhlkaaGreatDoor.G
open Go.RowKit Go.Proofs.YtockdfnnhkhlkaaGreatDoorW.PrintWords Go.Proofs.YtockdfnnhkhlkaaGreatDoorW.PrintLast Go.Proofs.YtockdfnnhkhlkaaGreatDoorW.PrintMore
attribute [local go_sem] max2_int min2_int max_two min_two max_three min_three max_four min_four   -- for this text's walks alone
set_option linter.unusedVariables false
set_option linter.unusedSimpArgs false

/-! ### althingref1_low: function 229 -/
def althingref1_low.l0 : Nat → Int → Int → List Int → Int → Option (List Int)
  | 0, _, _, _, _ => none
  | k + 1, x0, x1, x5, x6 => if x6 < x1 then (if 0 ≤ (IntKind.u64.wrap (wrap64 (8 * x6))) then (if x5.length < 140737488355328 then (althingref1_low.l0 k x0 x1 (x5 ++ [(shr .i64 x0 (IntKind.u64.wrap (wrap64 (8 * x6)))) % 256]) (wrap64 (x6 + 1))) else (none)) else (none)) else (some x5)
def althingref1_low.f (k : Nat) (a0 : Int) (a1 : Int) : Option (List Int) := althingref1_low.l0 k a0 a1 ([] : List Int) 0
set_option maxHeartbeats 8000000 in
set_option maxRecDepth 100000 in
theorem althingref1_low.calls (k : Nat) (a0 : Int) (a1 : Int) (r : List Int) (w : World) (h : althingref1_low.f k a0 a1 = some r) :
    Calls Tryz.prog 229 #[.int .i64 a0, .int .i64 a1] w fun e w' => ∃ v0_ : Value, e = .returned (v0_) ∧ Kd.R (Kd.int .u8) 5 w' w.heap.size (fun _ => True) v0_ r ∧ Below w.heap.size w w' := by
  have HB := Aside0.mk (Below.refl w.heap.size w)
  have H : (althingref1_low.l0 k a0 a1 ([] : List Int) 0) = some r := h
  clear h
  have H' := Aside0.mk H
  clear H
  go_enter Tryz.func229, Tryz.ntmps229
  go_wp2
  go_loopg [5, 6] k (fun kq v5 v6 w' => ∃ (x5_1 : List Int) (x6_1 : Int), v6 = .int .i64 x6_1 ∧ Aside0 (althingref1_low.l0 kq a0 a1 x5_1 x6_1 = some r) ∧ Aside0 (kq ≤ k) ∧ Aside0 (Kd.R (Kd.int .u8) 5 w' w.heap.size (fun _ => True) v5 x5_1) ∧ Aside0 (Below w.heap.size w w'))
  case atStart => exact ⟨(([] : List Int)), (0), (by first | rfl | (simp; done) | (simp [*]; done)), H', ⟨Nat.le_refl _⟩, ⟨by first | exact Kd.R_nil _ _ _ _ _ | exact Kd.N_nil _ _ _ _ _ | exact Kd.V_nil _ _ _ _ _ | exact Kd.Q_nil _ _ _ _ _ | exact Kd.S_nil _ _ _ _ _⟩, ⟨by repeat (first | (with_reducible first | exact HB.out | apply below_alloc | apply pw_below_drewN | apply below_drew1) | exact HB.out)⟩⟩
  case round =>
    clear H'
    try clear c2
    try clear p2
    obtain ⟨x5_1, x6_1, rfl, HA, HK1, HO_5, HB⟩ := hrel
    cases gk with
    | zero => exact absurd HA.out (by simp [althingref1_low.l0])
    | succ k1 =>
      have H := HA.out
      clear HA
      simp only [althingref1_low.l0] at H
      by_cases c3 : x6_1 < a1
      · rw [if_pos c3] at H
        have c3b0 : decide (x6_1 < a1) = true := decide_eq_true c3
        clear c3
        obtain ⟨ji4, hji4⟩ : ∃ j_ : Int, (IntKind.u64.wrap (wrap64 (8 * x6_1))) = j_ := ⟨_, rfl⟩
        replace H : (if 0 ≤ (ji4) then (if x5_1.length < 140737488355328 then (althingref1_low.l0 k1 a0 a1 (x5_1 ++ [(shr .i64 a0 (ji4)) % 256]) (wrap64 (x6_1 + 1))) else (none)) else (none)) = some r := by first | (rw [hji4] at H; exact H) | (simp only [hji4] at H ⊢; exact H)
        by_cases c5 : 0 ≤ (ji4)
        · rw [if_pos c5] at H
          have c5b0 := eq_true c5
          have c5b1 : decide (0 ≤ (ji4)) = true := decide_eq_true c5
          clear c5
          obtain ⟨ji6, hji6⟩ : ∃ j_ : Int, (shr .i64 a0 (ji4)) = j_ := ⟨_, rfl⟩
          replace H : (if x5_1.length < 140737488355328 then (althingref1_low.l0 k1 a0 a1 (x5_1 ++ [(ji6) % 256]) (wrap64 (x6_1 + 1))) else (none)) = some r := by first | (rw [hji6] at H; exact H) | (simp only [hji6] at H ⊢; exact H)
          have hji6_ : (a0 / 2 ^ min (ji4).toNat 64) = ji6 := hji6
          have hji6z : (ji4) ≤ 64 → (a0 / 2 ^ (ji4).toNat) = ji6 := shr_small hji6
          by_cases c7 : x5_1.length < 140737488355328
          · rw [if_pos c7] at H
            have LMc7 := Aside0.mk c7
            clear c7
            obtain ⟨y119, hy119⟩ : ∃ y_ : List Int, y_ = (x5_1 ++ [(ji6) % 256]) := ⟨_, rfl⟩
            replace H : (althingref1_low.l0 k1 a0 a1 y119 (wrap64 (x6_1 + 1))) = some r := by first | (rw [hy119]; with_reducible exact H) | (have H2_ := (Option.bind_some _ _).symm.trans H; rw [hy119]; with_reducible exact H2_) | (have H2_ := (Option.bind_some _ _).symm.trans H; with_reducible exact H2_) | with_reducible exact H | (rw [hy119]; exact H) | exact H
            have Ny119 := Aside0.mk hy119
            clear hy119
            have H' := Aside0.mk H
            clear H
            go_wp2_with (first | ((with_reducible refine gate_builtin (b := .append) (xs := #[.tmp 12, .tmp 19]) rfl ?_); at_builtin; refine Kd.R_append (Kd.int .u8) (w0 := w) w.heap.size rfl (.tmp 12) (.tmp 19) 50 5 (.int .u8 0) 1 rfl Tryz.underlying50 info5 rfl (by decide) (by omega) u5 x5_1 ((ji6) % 256) [.int .u8 ((ji6) % 256)] (fun _ => True) (fun _ => False) rfl rfl ?aP (fun _ hk => hk.elim) ?aF ?aO ?aB ?aS ?aL ?_; (case aP => exact rfl); (case aB => exact (by repeat (first | (with_reducible first | exact HB.out | apply below_alloc | apply pw_below_drewN | apply below_drew1) | exact HB.out))); (case aF => exact (fun _ _ => trivial)); (case aO => exact (by (with_reducible repeat (first | apply Kd.R_alloc | apply Kd.R_drewN | apply Kd.R_drew)); exact HO_5.out)); (case aS => exact (below_size (by repeat (first | (with_reducible first | exact HB.out | apply below_alloc | apply pw_below_drewN | apply below_drew1) | exact HB.out)))); (case aL => have := LMc7.out; omega); intro v120 w8 ho hb hg hat; rw [← Ny119.out] at ho; have n0_ := Aside0.mk (hb); have n1_ := Aside0.mk (ho); clear HB; clear HO_5; have HB := n0_; have HO121 := n1_; clear n0_ n1_; clear ho hb hg hat))
            go_roundg k1
            case measure => have := HK1.out; omega
            case rel => exact ⟨(y119), (wrap64 (x6_1 + 1)), (by first | rfl | (simp; done) | (simp [*]; done)), H', ⟨by have := HK1.out; omega⟩, ⟨by (with_reducible repeat (first | apply Kd.R_alloc | apply Kd.R_drewN | apply Kd.R_drew)); exact HO121.out⟩, ⟨by repeat (first | (with_reducible first | exact HB.out | apply below_alloc | apply pw_below_drewN | apply below_drew1) | exact HB.out)⟩⟩
          · rw [if_neg c7] at H
            exact absurd H (by simp)
        · rw [if_neg c5] at H
          exact absurd H (by simp)
      · rw [if_neg c3] at H
        have c3b0 : decide (x6_1 < a1) = false := decide_eq_false c3
        clear c3
        obtain rfl := Option.some.inj H
        go_wp2
        go_ret
        exact ⟨_, by first | rfl | (simp [errW_none, errW_some] <;> rfl) | (simp [*, errW_none, errW_some] <;> rfl), by (with_reducible repeat (first | apply Kd.R_alloc | apply Kd.R_drewN | apply Kd.R_drew)); exact HO_5.out, by repeat (first | (with_reducible first | exact HB.out | apply below_alloc | apply pw_below_drewN | apply below_drew1) | exact HB.out)⟩

/-! ### althingref1_Num: function 197 -/
def althingref1_Num.l0 : Nat → Int → Int → Option (List Int)
  | 0, _, _ => none
  | k + 1, x0, x3 => if x3 < 8 then (if 0 ≤ (IntKind.u64.wrap (wrap64 (8 * x3))) then (if (shr .i64 x0 (IntKind.u64.wrap (wrap64 (8 * x3)))) > 0 then (althingref1_Num.l0 k x0 (wrap64 (x3 + 1))) else ((some (([(Go.bits .or .i64 (wrap64 ((wrap64 (x3 - 4)) * 4)) 3) % 256] : List Int) : List Int)).bind fun y131 => ((althingref1_low.f k x0 x3).bind fun t134 => (if y131.length + t134.length < 140737488355328 then (some (y131 ++ t134)) else (none))))) else (none)) else ((some (([(Go.bits .or .i64 (wrap64 ((wrap64 (x3 - 4)) * 4)) 3) % 256] : List Int) : List Int)).bind fun y140 => ((althingref1_low.f k x0 x3).bind fun t143 => (if y140.length + t143.length < 140737488355328 then (some (y140 ++ t143)) else (none))))
def althingref1_Num.f (k : Nat) (a0 : Int) : Option (List Int) := if (mn (mx a0 0) 4611686018427387904) < 64 then ((althingref1_low.f k (wrap64 ((mn (mx a0 0) 4611686018427387904) * 4)) 1).bind fun t122 => (some t122)) else (if (mn (mx a0 0) 4611686018427387904) < 16384 then ((althingref1_low.f k (Go.bits .or .i64 (wrap64 ((mn (mx a0 0) 4611686018427387904) * 4)) 1) 2).bind fun t125 => (some t125)) else (if (mn (mx a0 0) 4611686018427387904) < 1073741824 then ((althingref1_low.f k (Go.bits .or .i64 (wrap64 ((mn (mx a0 0) 4611686018427387904) * 4)) 2) 4).bind fun t128 => (some t128)) else (althingref1_Num.l0 k (mn (mx a0 0) 4611686018427387904) 4)))
set_option maxHeartbeats 8000000 in
set_option maxRecDepth 100000 in
theorem althingref1_Num.calls (k : Nat) (a0 : Int) (r : List Int) (w : World) (h : althingref1_Num.f k a0 = some r) :
    Calls Tryz.prog 197 #[.int .i64 a0] w fun e w' => ∃ v0_ : Value, e = .returned (v0_) ∧ Kd.R (Kd.int .u8) 5 w' w.heap.size (fun _ => True) v0_ r ∧ Below w.heap.size w w' := by
  have HB := Aside0.mk (Below.refl w.heap.size w)
  have H : (if (mn (mx a0 0) 4611686018427387904) < 64 then ((althingref1_low.f k (wrap64 ((mn (mx a0 0) 4611686018427387904) * 4)) 1).bind fun t122 => (some t122)) else (if (mn (mx a0 0) 4611686018427387904) < 16384 then ((althingref1_low.f k (Go.bits .or .i64 (wrap64 ((mn (mx a0 0) 4611686018427387904) * 4)) 1) 2).bind fun t125 => (some t125)) else (if (mn (mx a0 0) 4611686018427387904) < 1073741824 then ((althingref1_low.f k (Go.bits .or .i64 (wrap64 ((mn (mx a0 0) 4611686018427387904) * 4)) 2) 4).bind fun t128 => (some t128)) else (althingref1_Num.l0 k (mn (mx a0 0) 4611686018427387904) 4)))) = some r := h
  clear h
  obtain ⟨ji2, hji2⟩ : ∃ j_ : Int, (mx a0 0) = j_ := ⟨_, rfl⟩
  replace H : (if (mn (ji2) 4611686018427387904) < 64 then ((althingref1_low.f k (wrap64 ((mn (ji2) 4611686018427387904) * 4)) 1).bind fun t122 => (some t122)) else (if (mn (ji2) 4611686018427387904) < 16384 then ((althingref1_low.f k (Go.bits .or .i64 (wrap64 ((mn (ji2) 4611686018427387904) * 4)) 1) 2).bind fun t125 => (some t125)) else (if (mn (ji2) 4611686018427387904) < 1073741824 then ((althingref1_low.f k (Go.bits .or .i64 (wrap64 ((mn (ji2) 4611686018427387904) * 4)) 2) 4).bind fun t128 => (some t128)) else (althingref1_Num.l0 k (mn (ji2) 4611686018427387904) 4)))) = some r := by first | (rw [hji2] at H; exact H) | (simp only [hji2] at H ⊢; exact H)
  (try (have hji2l : 0 ≤ ji2 := by (rw [← hji2]; unfold mx; (repeat' split) <;> omega)))
  (try (have hji2m : 0 ≤ ji2 := by omega))
  have hji2_ : (if a0 < 0 then 0 else a0) = ji2 := hji2
  obtain ⟨ji3, hji3⟩ : ∃ j_ : Int, (mn (ji2) 4611686018427387904) = j_ := ⟨_, rfl⟩
  replace H : (if (ji3) < 64 then ((althingref1_low.f k (wrap64 ((ji3) * 4)) 1).bind fun t122 => (some t122)) else (if (ji3) < 16384 then ((althingref1_low.f k (Go.bits .or .i64 (wrap64 ((ji3) * 4)) 1) 2).bind fun t125 => (some t125)) else (if (ji3) < 1073741824 then ((althingref1_low.f k (Go.bits .or .i64 (wrap64 ((ji3) * 4)) 2) 4).bind fun t128 => (some t128)) else (althingref1_Num.l0 k ji3 4)))) = some r := by first | (rw [hji3] at H; exact H) | (simp only [hji3] at H ⊢; exact H)
  have hji3_ : (if 4611686018427387904 < (ji2) then 4611686018427387904 else (ji2)) = ji3 := hji3
  by_cases c4 : (ji3) < 64
  · rw [if_pos c4] at H
    have c4b0 : decide ((ji3) < 64) = true := decide_eq_true c4
    clear c4
    replace H := Option.bind_eq_some_iff.mp H
    obtain ⟨t122, A50, H⟩ := H
    replace H : (some t122) = some r := H
    have A5 := Aside0.mk A50
    clear A50
    obtain rfl := Option.some.inj H
    go_enter Tryz.func197, Tryz.ntmps197
    go_wp2_with (first | ((with_reducible refine gate_callee (f := 229) rfl ?_); refine goesL_ (some 12) rfl rfl Tryz.func229 (by kernel_rfl) rfl #[.int .i64 (wrap64 ((ji3) * 4)), .int .i64 1] rfl (by (try simp only [List.map_toArray, List.map_cons, List.map_nil]); first | done | (simp only [hji3]; rfl) | rfl | (simp only [List.length_drop, List.length_take]; rfl)) ?_; (with_reducible refine (althingref1_low.calls k (wrap64 ((ji3) * 4)) 1 t122 _ A5.out).mono ?_); rintro e w6 ⟨v123, rfl, ho0, hb⟩; refine ⟨_, rfl, ?_⟩; have n0_ := Aside0.mk (Kd.R_lower ho0 (below_size (by repeat (first | (with_reducible first | exact HB.out | apply below_alloc | apply pw_below_drewN | apply below_drew1) | exact HB.out)))); have n1_ := Aside0.mk (below_step (by repeat (first | (with_reducible first | exact HB.out | apply below_alloc | apply pw_below_drewN | apply below_drew1) | exact HB.out)) hb); clear HB; have HO124 := n0_; have HB := n1_; clear n0_ n1_; (try clear hb); (try clear hb2); (try clear hk); (try clear hi); (try clear ho0)))
    go_ret
    exact ⟨_, by first | rfl | (simp [errW_none, errW_some] <;> rfl) | (simp only [← hji2, ← hji3]; first | rfl | (simp [errW_none, errW_some] <;> rfl)) | (simp [*, errW_none, errW_some] <;> rfl), by (with_reducible repeat (first | apply Kd.R_alloc | apply Kd.R_drewN | apply Kd.R_drew)); exact HO124.out, by repeat (first | (with_reducible first | exact HB.out | apply below_alloc | apply pw_below_drewN | apply below_drew1) | exact HB.out)⟩
  · rw [if_neg c4] at H
    have c4b0 : decide ((ji3) < 64) = false := decide_eq_false c4
    clear c4
    by_cases c7 : (ji3) < 16384
    · rw [if_pos c7] at H
      have c7b0 : decide ((ji3) < 16384) = true := decide_eq_true c7
      clear c7
      replace H := Option.bind_eq_some_iff.mp H
      obtain ⟨t125, A80, H⟩ := H
      replace H : (some t125) = some r := H
      have A8 := Aside0.mk A80
      clear A80
      obtain rfl := Option.some.inj H
      go_enter Tryz.func197, Tryz.ntmps197
      go_wp2_with (first | ((with_reducible refine gate_callee (f := 229) rfl ?_); refine goesL_ (some 19) rfl rfl Tryz.func229 (by kernel_rfl) rfl #[.int .i64 (Go.bits .or .i64 (wrap64 ((ji3) * 4)) 1), .int .i64 2] rfl (by (try simp only [List.map_toArray, List.map_cons, List.map_nil]); first | done | (simp only [hji3]; rfl) | rfl | (simp only [List.length_drop, List.length_take]; rfl)) ?_; (with_reducible refine (althingref1_low.calls k (Go.bits .or .i64 (wrap64 ((ji3) * 4)) 1) 2 t125 _ A8.out).mono ?_); rintro e w9 ⟨v126, rfl, ho0, hb⟩; refine ⟨_, rfl, ?_⟩; have n0_ := Aside0.mk (Kd.R_lower ho0 (below_size (by repeat (first | (with_reducible first | exact HB.out | apply below_alloc | apply pw_below_drewN | apply below_drew1) | exact HB.out)))); have n1_ := Aside0.mk (below_step (by repeat (first | (with_reducible first | exact HB.out | apply below_alloc | apply pw_below_drewN | apply below_drew1) | exact HB.out)) hb); clear HB; have HO127 := n0_; have HB := n1_; clear n0_ n1_; (try clear hb); (try clear hb2); (try clear hk); (try clear hi); (try clear ho0)))
      go_ret
      exact ⟨_, by first | rfl | (simp [errW_none, errW_some] <;> rfl) | (simp only [← hji2, ← hji3]; first | rfl | (simp [errW_none, errW_some] <;> rfl)) | (simp [*, errW_none, errW_some] <;> rfl), by (with_reducible repeat (first | apply Kd.R_alloc | apply Kd.R_drewN | apply Kd.R_drew)); exact HO127.out, by repeat (first | (with_reducible first | exact HB.out | apply below_alloc | apply pw_below_drewN | apply below_drew1) | exact HB.out)⟩
    · rw [if_neg c7] at H
      have c7b0 : decide ((ji3) < 16384) = false := decide_eq_false c7
      clear c7
      by_cases c10 : (ji3) < 1073741824
      · rw [if_pos c10] at H
        have c10b0 : decide ((ji3) < 1073741824) = true := decide_eq_true c10
        clear c10
        replace H := Option.bind_eq_some_iff.mp H
        obtain ⟨t128, A110, H⟩ := H
        replace H : (some t128) = some r := H
        have A11 := Aside0.mk A110
        clear A110
        obtain rfl := Option.some.inj H
        go_enter Tryz.func197, Tryz.ntmps197
        go_wp2_with (first | ((with_reducible refine gate_callee (f := 229) rfl ?_); refine goesL_ (some 26) rfl rfl Tryz.func229 (by kernel_rfl) rfl #[.int .i64 (Go.bits .or .i64 (wrap64 ((ji3) * 4)) 2), .int .i64 4] rfl (by (try simp only [List.map_toArray, List.map_cons, List.map_nil]); first | done | (simp only [hji3]; rfl) | rfl | (simp only [List.length_drop, List.length_take]; rfl)) ?_; (with_reducible refine (althingref1_low.calls k (Go.bits .or .i64 (wrap64 ((ji3) * 4)) 2) 4 t128 _ A11.out).mono ?_); rintro e w12 ⟨v129, rfl, ho0, hb⟩; refine ⟨_, rfl, ?_⟩; have n0_ := Aside0.mk (Kd.R_lower ho0 (below_size (by repeat (first | (with_reducible first | exact HB.out | apply below_alloc | apply pw_below_drewN | apply below_drew1) | exact HB.out)))); have n1_ := Aside0.mk (below_step (by repeat (first | (with_reducible first | exact HB.out | apply below_alloc | apply pw_below_drewN | apply below_drew1) | exact HB.out)) hb); clear HB; have HO130 := n0_; have HB := n1_; clear n0_ n1_; (try clear hb); (try clear hb2); (try clear hk); (try clear hi); (try clear ho0)))
        go_ret
        exact ⟨_, by first | rfl | (simp [errW_none, errW_some] <;> rfl) | (simp only [← hji2, ← hji3]; first | rfl | (simp [errW_none, errW_some] <;> rfl)) | (simp [*, errW_none, errW_some] <;> rfl), by (with_reducible repeat (first | apply Kd.R_alloc | apply Kd.R_drewN | apply Kd.R_drew)); exact HO130.out, by repeat (first | (with_reducible first | exact HB.out | apply below_alloc | apply pw_below_drewN | apply below_drew1) | exact HB.out)⟩
      · rw [if_neg c10] at H
        have c10b0 : decide ((ji3) < 1073741824) = false := decide_eq_false c10
        clear c10
        have H' := Aside0.mk H
        clear H
        go_enter Tryz.func197, Tryz.ntmps197
        go_wp2
        go_loopg [3] k (fun kq v3 w' => ∃ (x3_1 : Int), v3 = .int .i64 x3_1 ∧ Aside0 (althingref1_Num.l0 kq ji3 x3_1 = some r) ∧ Aside0 (kq ≤ k) ∧ Aside0 (Below w.heap.size w w'))
        case atStart => exact ⟨(4), (by first | rfl | (simp; done) | (simp [*]; done)), H', ⟨Nat.le_refl _⟩, ⟨by repeat (first | (with_reducible first | exact HB.out | apply below_alloc | apply pw_below_drewN | apply below_drew1) | exact HB.out)⟩⟩
        case round =>
          clear H'
          try clear c1
          try clear c2
          try clear p2
          try clear c4
          try clear c4b0
          try clear p6
          try clear c7
          try clear c7b0
          try clear c10
          try clear c10b0
          obtain ⟨x3_1, rfl, HA, HK1, HB⟩ := hrel
          cases gk with
          | zero => exact absurd HA.out (by simp [althingref1_Num.l0])
          | succ k1 =>
            have H := HA.out
            clear HA
            simp only [althingref1_Num.l0] at H
            by_cases c13 : x3_1 < 8
            · rw [if_pos c13] at H
              have c13b0 : decide (x3_1 < 8) = true := decide_eq_true c13
              clear c13
              obtain ⟨ji14, hji14⟩ : ∃ j_ : Int, (IntKind.u64.wrap (wrap64 (8 * x3_1))) = j_ := ⟨_, rfl⟩
              replace H : (if 0 ≤ (ji14) then (if (shr .i64 ji3 (ji14)) > 0 then (althingref1_Num.l0 k1 ji3 (wrap64 (x3_1 + 1))) else ((some (([(Go.bits .or .i64 (wrap64 ((wrap64 (x3_1 - 4)) * 4)) 3) % 256] : List Int) : List Int)).bind fun y131 => ((althingref1_low.f k1 ji3 x3_1).bind fun t134 => (if y131.length + t134.length < 140737488355328 then (some (y131 ++ t134)) else (none))))) else (none)) = some r := by first | (rw [hji14] at H; exact H) | (simp only [hji14] at H ⊢; exact H)
              by_cases c15 : 0 ≤ (ji14)
              · rw [if_pos c15] at H
                have c15b0 := eq_true c15
                have c15b1 : decide (0 ≤ (ji14)) = true := decide_eq_true c15
                clear c15
                obtain ⟨ji16, hji16⟩ : ∃ j_ : Int, (shr .i64 ji3 (ji14)) = j_ := ⟨_, rfl⟩
                replace H : (if (ji16) > 0 then (althingref1_Num.l0 k1 ji3 (wrap64 (x3_1 + 1))) else ((some (([(Go.bits .or .i64 (wrap64 ((wrap64 (x3_1 - 4)) * 4)) 3) % 256] : List Int) : List Int)).bind fun y131 => ((althingref1_low.f k1 ji3 x3_1).bind fun t134 => (if y131.length + t134.length < 140737488355328 then (some (y131 ++ t134)) else (none))))) = some r := by first | (rw [hji16] at H; exact H) | (simp only [hji16] at H ⊢; exact H)
                have hji16_ : (ji3 / 2 ^ min (ji14).toNat 64) = ji16 := hji16
                have hji16z : (ji14) ≤ 64 → (ji3 / 2 ^ (ji14).toNat) = ji16 := shr_small hji16
                by_cases c17 : (ji16) > 0
                · rw [if_pos c17] at H
                  have c17b0 : decide (0 < (ji16)) = true := decide_eq_true c17
                  clear c17
                  have H' := Aside0.mk H
                  clear H
                  go_wp2
                  go_roundg k1
                  case measure => have := HK1.out; omega
                  case rel => exact ⟨(wrap64 (x3_1 + 1)), (by first | rfl | (simp; done) | (simp [*]; done)), H', ⟨by have := HK1.out; omega⟩, ⟨by repeat (first | (with_reducible first | exact HB.out | apply below_alloc | apply pw_below_drewN | apply below_drew1) | exact HB.out)⟩⟩
                · rw [if_neg c17] at H
                  have c17b0 : decide (0 < (ji16)) = false := decide_eq_false c17
                  clear c17
                  obtain ⟨y131, hy131⟩ : ∃ y_ : List Int, y_ = (([(Go.bits .or .i64 (wrap64 ((wrap64 (x3_1 - 4)) * 4)) 3) % 256] : List Int)) := ⟨_, rfl⟩
                  replace H : ((althingref1_low.f k1 ji3 x3_1).bind fun t134 => (if y131.length + t134.length < 140737488355328 then (some (y131 ++ t134)) else (none))) = some r := by first | (rw [hy131]; with_reducible exact H) | (have H2_ := (Option.bind_some _ _).symm.trans H; rw [hy131]; with_reducible exact H2_) | (have H2_ := (Option.bind_some _ _).symm.trans H; with_reducible exact H2_) | with_reducible exact H | (rw [hy131]; exact H) | exact H
                  have Ny131 := Aside0.mk hy131
                  clear hy131
                  replace H := Option.bind_eq_some_iff.mp H
                  obtain ⟨t134, A180, H⟩ := H
                  replace H : (if y131.length + t134.length < 140737488355328 then (some (y131 ++ t134)) else (none)) = some r := H
                  have A18 := Aside0.mk A180
                  clear A180
                  by_cases c19 : y131.length + t134.length < 140737488355328
                  · rw [if_pos c19] at H
                    have LMc19 := Aside0.mk c19
                    clear c19
                    obtain ⟨y137, hy137⟩ : ∃ y_ : List Int, y_ = (y131 ++ t134) := ⟨_, rfl⟩
                    replace H : (some y137) = some r := by first | (rw [hy137]; with_reducible exact H) | (have H2_ := (Option.bind_some _ _).symm.trans H; rw [hy137]; with_reducible exact H2_) | (have H2_ := (Option.bind_some _ _).symm.trans H; with_reducible exact H2_) | with_reducible exact H | (rw [hy137]; exact H) | exact H
                    have Ny137 := Aside0.mk hy137
                    clear hy137
                    obtain rfl := Option.some.inj H
                    go_wp2_with (first | ((with_reducible refine gate_dst (N := 44) rfl ?_); refine Kd.R_lit (Kd.int .u8) _ 5 ?hg (N := 44) ?hd (xs := ([(Go.bits .or .i64 (wrap64 ((wrap64 (x3_1 - 4)) * 4)) 3) % 256] : List Int)) (inner := [.int .u8 ((Go.bits .or .i64 (wrap64 ((wrap64 (x3_1 - 4)) * 4)) 3) % 256)]) (ok := fun _ => True) (okp := fun _ => True) ?hr ?hp (fun _ hk => hk) trivial (Below.refl _ _) (Nat.le_refl _) (by simp) ?_; (case hd => rfl); (case hg => rfl); (case hr => first | (go_simp; done) | (go_simp; rfl)); (case hp => exact (Reps.one (show Kd.M (Kd.int .u8) _ _ _ ((Go.bits .or .i64 (wrap64 ((wrap64 (x3_1 - 4)) * 4)) 3) % 256) [.int .u8 ((Go.bits .or .i64 (wrap64 ((wrap64 (x3_1 - 4)) * 4)) 3) % 256)] from rfl) (Reps.none _ _))); intro v132 w20 ho21 hb hg_ hnew_; clear hg_ hnew_; (first | rw [← Ny131.out] at ho21 | (simp only [Int.reduceToNat] at ho21; rw [← Ny131.out] at ho21)); have n0_ := Aside0.mk (Kd.R_lower ho21 (below_size (by repeat (first | (with_reducible first | exact HB.out | apply below_alloc | apply pw_below_drewN | apply below_drew1) | exact HB.out)))); have n1_ := Aside0.mk (below_step (by repeat (first | (with_reducible first | exact HB.out | apply below_alloc | apply pw_below_drewN | apply below_drew1) | exact HB.out)) hb); clear HB; have HO133 := n0_; have HB := n1_; clear n0_ n1_; clear hb ho21) | ((with_reducible refine gate_callee (f := 229) rfl ?_); refine goesL_ (some 47) rfl rfl Tryz.func229 (by kernel_rfl) rfl #[.int .i64 ji3, .int .i64 x3_1] rfl (by (try simp only [List.map_toArray, List.map_cons, List.map_nil]); first | done | (simp only [hji3]; rfl) | rfl | (simp only [List.length_drop, List.length_take]; rfl)) ?_; (with_reducible refine (althingref1_low.calls k1 ji3 x3_1 t134 _ A18.out).mono ?_); rintro e w22 ⟨v135, rfl, ho0, hb⟩; refine ⟨_, rfl, ?_⟩; have n0_ := Aside0.mk (Kd.R_elder' (by (with_reducible repeat (first | apply Kd.R_alloc | apply Kd.R_drewN | apply Kd.R_drew)); exact HO133.out) (Kd.R_base ho0) hb); have n1_ := Aside0.mk (Kd.R_lower (Kd.R_new' ho0 (Kd.R_lt (by (with_reducible repeat (first | apply Kd.R_alloc | apply Kd.R_drewN | apply Kd.R_drew)); exact HO133.out))) (below_size (by repeat (first | (with_reducible first | exact HB.out | apply below_alloc | apply pw_below_drewN | apply below_drew1) | exact HB.out)))); have n2_ := Aside0.mk (below_step (by repeat (first | (with_reducible first | exact HB.out | apply below_alloc | apply pw_below_drewN | apply below_drew1) | exact HB.out)) hb); clear HO133; clear HB; have HO133 := n0_; have HO136 := n1_; have HB := n2_; clear n0_ n1_ n2_; (try clear hb); (try clear hb2); (try clear hk); (try clear hi); (try clear ho0); obtain ⟨Ao24, co24, eo24⟩ := Kd.R_slice HO136.out; subst eo24) | ((with_reducible refine gate_builtin (b := .append) (xs := #[.tmp 44, .tmp 47]) rfl ?_); at_builtin; refine Kd.R_append_rows (Kd.int .u8) (w0 := w) w.heap.size rfl (.tmp 44) (.tmp 47) 50 5 (.int .u8 0) 1 rfl Tryz.underlying50 info5 rfl (by decide) (by omega) v132 y131 t134 _ _ _ (fun k_ => some k_ ≠ (.slice Ao24 t134.length co24 : Value).ownBlock) (fun _ => False) rfl rfl ?aO ?aR (fun _ _ h => h) (fun _ h => h.elim) ?aF ?aB ?aS ?aL ?_; (case aR => repeat (first | exact (Kd.R_reads' HO136.out).2.2 | (with_reducible refine Kd.C_alloc ?_ _) | (with_reducible refine Kd.C_drewN ?_ _) | (with_reducible refine Kd.C_drew ?_))); (case aB => exact (by repeat (first | (with_reducible first | exact HB.out | apply below_alloc | apply pw_below_drewN | apply below_drew1) | exact HB.out))); (case aF => exact (fun k_ hk => Kd.fresh' (Kd.R_lt (by (with_reducible repeat (first | apply Kd.R_alloc | apply Kd.R_drewN | apply Kd.R_drew)); exact HO136.out)) k_ hk)); (case aO => exact (by (with_reducible repeat (first | apply Kd.R_alloc | apply Kd.R_drewN | apply Kd.R_drew)); exact Kd.R_mono HO133.out (fun _ hk => hk.2))); (case aS => exact (below_size (by repeat (first | (with_reducible first | exact HB.out | apply below_alloc | apply pw_below_drewN | apply below_drew1) | exact HB.out)))); (case aL => have := LMc19.out; omega); intro v138 w23 ho hb hg hat; rw [← Ny137.out] at ho; have n0_ := Aside0.mk (Kd.R_after (ok := (fun _ => True)) (by (with_reducible repeat (first | apply Kd.R_alloc | apply Kd.R_drewN | apply Kd.R_drew)); exact HO136.out) hg hat); have n1_ := Aside0.mk (hb); have n2_ := Aside0.mk (ho); clear HO136; clear HB; clear HO133; have HO136 := n0_; have HB := n1_; have HO139 := n2_; clear n0_ n1_ n2_; clear ho hb hg hat))
                    go_ret
                    exact ⟨_, by first | rfl | (simp [errW_none, errW_some] <;> rfl) | (simp only [← hji2, ← hji3, ← hji14, ← hji16]; first | rfl | (simp [errW_none, errW_some] <;> rfl)) | (simp [*, errW_none, errW_some] <;> rfl), by (with_reducible repeat (first | apply Kd.R_alloc | apply Kd.R_drewN | apply Kd.R_drew)); exact Kd.R_mono HO139.out (fun _ hk => trivial), by repeat (first | (with_reducible first | exact HB.out | apply below_alloc | apply pw_below_drewN | apply below_drew1) | exact HB.out)⟩
                  · rw [if_neg c19] at H
                    exact absurd H (by simp)
              · rw [if_neg c15] at H
                exact absurd H (by simp)
            · rw [if_neg c13] at H
              have c13b0 : decide (x3_1 < 8) = false := decide_eq_false c13
              clear c13
              obtain ⟨y140, hy140⟩ : ∃ y_ : List Int, y_ = (([(Go.bits .or .i64 (wrap64 ((wrap64 (x3_1 - 4)) * 4)) 3) % 256] : List Int)) := ⟨_, rfl⟩
              replace H : ((althingref1_low.f k1 ji3 x3_1).bind fun t143 => (if y140.length + t143.length < 140737488355328 then (some (y140 ++ t143)) else (none))) = some r := by first | (rw [hy140]; with_reducible exact H) | (have H2_ := (Option.bind_some _ _).symm.trans H; rw [hy140]; with_reducible exact H2_) | (have H2_ := (Option.bind_some _ _).symm.trans H; with_reducible exact H2_) | with_reducible exact H | (rw [hy140]; exact H) | exact H
              have Ny140 := Aside0.mk hy140
              clear hy140
              replace H := Option.bind_eq_some_iff.mp H
              obtain ⟨t143, A250, H⟩ := H
              replace H : (if y140.length + t143.length < 140737488355328 then (some (y140 ++ t143)) else (none)) = some r := H
              have A25 := Aside0.mk A250
              clear A250
              by_cases c26 : y140.length + t143.length < 140737488355328
              · rw [if_pos c26] at H
                have LMc26 := Aside0.mk c26
                clear c26
                obtain ⟨y146, hy146⟩ : ∃ y_ : List Int, y_ = (y140 ++ t143) := ⟨_, rfl⟩
                replace H : (some y146) = some r := by first | (rw [hy146]; with_reducible exact H) | (have H2_ := (Option.bind_some _ _).symm.trans H; rw [hy146]; with_reducible exact H2_) | (have H2_ := (Option.bind_some _ _).symm.trans H; with_reducible exact H2_) | with_reducible exact H | (rw [hy146]; exact H) | exact H
                have Ny146 := Aside0.mk hy146
                clear hy146
                obtain rfl := Option.some.inj H
                go_wp2_with (first | ((with_reducible refine gate_dst (N := 44) rfl ?_); refine Kd.R_lit (Kd.int .u8) _ 5 ?hg (N := 44) ?hd (xs := ([(Go.bits .or .i64 (wrap64 ((wrap64 (x3_1 - 4)) * 4)) 3) % 256] : List Int)) (inner := [.int .u8 ((Go.bits .or .i64 (wrap64 ((wrap64 (x3_1 - 4)) * 4)) 3) % 256)]) (ok := fun _ => True) (okp := fun _ => True) ?hr ?hp (fun _ hk => hk) trivial (Below.refl _ _) (Nat.le_refl _) (by simp) ?_; (case hd => rfl); (case hg => rfl); (case hr => first | (go_simp; done) | (go_simp; rfl)); (case hp => exact (Reps.one (show Kd.M (Kd.int .u8) _ _ _ ((Go.bits .or .i64 (wrap64 ((wrap64 (x3_1 - 4)) * 4)) 3) % 256) [.int .u8 ((Go.bits .or .i64 (wrap64 ((wrap64 (x3_1 - 4)) * 4)) 3) % 256)] from rfl) (Reps.none _ _))); intro v141 w27 ho28 hb hg_ hnew_; clear hg_ hnew_; (first | rw [← Ny140.out] at ho28 | (simp only [Int.reduceToNat] at ho28; rw [← Ny140.out] at ho28)); have n0_ := Aside0.mk (Kd.R_lower ho28 (below_size (by repeat (first | (with_reducible first | exact HB.out | apply below_alloc | apply pw_below_drewN | apply below_drew1) | exact HB.out)))); have n1_ := Aside0.mk (below_step (by repeat (first | (with_reducible first | exact HB.out | apply below_alloc | apply pw_below_drewN | apply below_drew1) | exact HB.out)) hb); clear HB; have HO142 := n0_; have HB := n1_; clear n0_ n1_; clear hb ho28) | ((with_reducible refine gate_callee (f := 229) rfl ?_); refine goesL_ (some 47) rfl rfl Tryz.func229 (by kernel_rfl) rfl #[.int .i64 ji3, .int .i64 x3_1] rfl (by (try simp only [List.map_toArray, List.map_cons, List.map_nil]); first | done | (simp only [hji3]; rfl) | rfl | (simp only [List.length_drop, List.length_take]; rfl)) ?_; (with_reducible refine (althingref1_low.calls k1 ji3 x3_1 t143 _ A25.out).mono ?_); rintro e w29 ⟨v144, rfl, ho0, hb⟩; refine ⟨_, rfl, ?_⟩; have n0_ := Aside0.mk (Kd.R_elder' (by (with_reducible repeat (first | apply Kd.R_alloc | apply Kd.R_drewN | apply Kd.R_drew)); exact HO142.out) (Kd.R_base ho0) hb); have n1_ := Aside0.mk (Kd.R_lower (Kd.R_new' ho0 (Kd.R_lt (by (with_reducible repeat (first | apply Kd.R_alloc | apply Kd.R_drewN | apply Kd.R_drew)); exact HO142.out))) (below_size (by repeat (first | (with_reducible first | exact HB.out | apply below_alloc | apply pw_below_drewN | apply below_drew1) | exact HB.out)))); have n2_ := Aside0.mk (below_step (by repeat (first | (with_reducible first | exact HB.out | apply below_alloc | apply pw_below_drewN | apply below_drew1) | exact HB.out)) hb); clear HO142; clear HB; have HO142 := n0_; have HO145 := n1_; have HB := n2_; clear n0_ n1_ n2_; (try clear hb); (try clear hb2); (try clear hk); (try clear hi); (try clear ho0); obtain ⟨Ao31, co31, eo31⟩ := Kd.R_slice HO145.out; subst eo31) | ((with_reducible refine gate_builtin (b := .append) (xs := #[.tmp 44, .tmp 47]) rfl ?_); at_builtin; refine Kd.R_append_rows (Kd.int .u8) (w0 := w) w.heap.size rfl (.tmp 44) (.tmp 47) 50 5 (.int .u8 0) 1 rfl Tryz.underlying50 info5 rfl (by decide) (by omega) v141 y140 t143 _ _ _ (fun k_ => some k_ ≠ (.slice Ao31 t143.length co31 : Value).ownBlock) (fun _ => False) rfl rfl ?aO ?aR (fun _ _ h => h) (fun _ h => h.elim) ?aF ?aB ?aS ?aL ?_; (case aR => repeat (first | exact (Kd.R_reads' HO145.out).2.2 | (with_reducible refine Kd.C_alloc ?_ _) | (with_reducible refine Kd.C_drewN ?_ _) | (with_reducible refine Kd.C_drew ?_))); (case aB => exact (by repeat (first | (with_reducible first | exact HB.out | apply below_alloc | apply pw_below_drewN | apply below_drew1) | exact HB.out))); (case aF => exact (fun k_ hk => Kd.fresh' (Kd.R_lt (by (with_reducible repeat (first | apply Kd.R_alloc | apply Kd.R_drewN | apply Kd.R_drew)); exact HO145.out)) k_ hk)); (case aO => exact (by (with_reducible repeat (first | apply Kd.R_alloc | apply Kd.R_drewN | apply Kd.R_drew)); exact Kd.R_mono HO142.out (fun _ hk => hk.2))); (case aS => exact (below_size (by repeat (first | (with_reducible first | exact HB.out | apply below_alloc | apply pw_below_drewN | apply below_drew1) | exact HB.out)))); (case aL => have := LMc26.out; omega); intro v147 w30 ho hb hg hat; rw [← Ny146.out] at ho; have n0_ := Aside0.mk (Kd.R_after (ok := (fun _ => True)) (by (with_reducible repeat (first | apply Kd.R_alloc | apply Kd.R_drewN | apply Kd.R_drew)); exact HO145.out) hg hat); have n1_ := Aside0.mk (hb); have n2_ := Aside0.mk (ho); clear HO145; clear HB; clear HO142; have HO145 := n0_; have HB := n1_; have HO148 := n2_; clear n0_ n1_ n2_; clear ho hb hg hat))
                go_ret
                exact ⟨_, by first | rfl | (simp [errW_none, errW_some] <;> rfl) | (simp only [← hji2, ← hji3]; first | rfl | (simp [errW_none, errW_some] <;> rfl)) | (simp [*, errW_none, errW_some] <;> rfl), by (with_reducible repeat (first | apply Kd.R_alloc | apply Kd.R_drewN | apply Kd.R_drew)); exact Kd.R_mono HO148.out (fun _ hk => trivial), by repeat (first | (with_reducible first | exact HB.out | apply below_alloc | apply pw_below_drewN | apply below_drew1) | exact HB.out)⟩
              · rw [if_neg c26] at H
                exact absurd H (by simp)

end Go.Proofs.YtockdfnnhkhlkaaGreatDoor.G

/- Numbers as bytes, plainly: what compact's Size, lays, Put and Take compute. -/
namespace Go.Proofs.YtockdfnnhkhlkaaGreatDoor.PNum
open Go.RowKit Go.Proofs.YtockdfnnhkhlkaaGreatDoor.G Go.Proofs.YtockdfnnhkhlkaaGreatDoorW.PrintWords Go.Proofs.YtockdfnnhkhlkaaGreatDoorW.PrintMore
set_option linter.unusedVariables false
set_option linter.unusedSimpArgs false

theorem wrap_in {a : Int} (h0 : 0 ≤ a) (h : a ≤ 9223372036854775807) : wrap64 a = a := by unfold wrap64; omega
theorem mx_eq (a b : Int) : mx a b = max a b := by unfold mx; omega
theorem mn_eq (a b : Int) : mn a b = min a b := by unfold mn; omega

/-! ### bytes, the lowest first -/
def lowB (n : Int) : Nat → List Int
  | 0 => []
  | s + 1 => n % 256 :: lowB (n / 256) s
def valB : List Int → Int
  | [] => 0
  | c :: r => c + 256 * valB r
def IsBytes (l : List Int) : Prop := ∀ c ∈ l, 0 ≤ c ∧ c < 256
theorem lowB_length (n : Int) (s : Nat) : (lowB n s).length = s := by
  induction s generalizing n with
  | zero => rfl
  | succ s ih => simp [lowB, ih]
theorem lowB_bytes (n : Int) (s : Nat) : IsBytes (lowB n s) := by
  induction s generalizing n with
  | zero => intro c h; simp [lowB] at h
  | succ s ih =>
    intro c h
    simp only [lowB, List.mem_cons] at h
    rcases h with rfl | h
    · omega
    · exact ih _ c h
theorem valB_bound (l : List Int) (h : IsBytes l) : 0 ≤ valB l ∧ valB l < 256 ^ l.length := by
  induction l with
  | nil => simp [valB]
  | cons c r ih =>
    have hc := h c (by simp)
    have hr := ih (fun x hx => h x (by simp [hx]))
    simp only [valB, List.length_cons, Int.pow_succ]
    generalize (256 : Int) ^ r.length = p at *
    omega
theorem lowB_valB (l : List Int) (h : IsBytes l) : lowB (valB l) l.length = l := by
  induction l with
  | nil => rfl
  | cons c r ih =>
    have hc := h c (by simp)
    have hr := ih (fun x hx => h x (by simp [hx]))
    have e1 : (c + 256 * valB r) % 256 = c := by omega
    have e2 : (c + 256 * valB r) / 256 = valB r := by omega
    simp only [valB, List.length_cons, lowB, e1, e2, hr]
theorem IsBytes.take {a : List Int} (ha : IsBytes a) (n : Nat) : IsBytes (a.take n) := fun c h => ha c (List.mem_of_mem_take h)
theorem IsBytes.drop {a : List Int} (ha : IsBytes a) (n : Nat) : IsBytes (a.drop n) := fun c h => ha c (List.mem_of_mem_drop h)

theorem number_tells (l : List Int) : compact_number.f l = some (wrap64 (valB l)) := by
  unfold compact_number.f
  congr 1
  rw [List.foldl_reverse]
  induction l with
  | nil => decide +kernel
  | cons c r ih =>
    simp only [List.foldr_cons, ih, valB]
    unfold numStep wrap64
    omega

/-! ### sizes -/
def heldN (n : Int) : Int := min (max n 0) 4611686018427387904
theorem heldN_bound (n : Int) : 0 ≤ heldN n ∧ heldN n ≤ 4611686018427387904 := by unfold heldN; omega
theorem heldN_in {n : Int} (h0 : 0 ≤ n) (h : n ≤ 4611686018427387904) : heldN n = n := by unfold heldN; omega
def widthN (n : Int) : Nat := if n < 4294967296 then 4 else if n < 1099511627776 then 5 else if n < 281474976710656 then 6 else if n < 72057594037927936 then 7 else 8
def sizeN (n : Int) : Nat := if heldN n < 64 then 1 else if heldN n < 16384 then 2 else if heldN n < 1073741824 then 4 else 1 + widthN (heldN n)
def numB (n : Int) : List Int :=
  if heldN n < 64 then lowB (4 * heldN n) 1 else if heldN n < 16384 then lowB (4 * heldN n + 1) 2 else if heldN n < 1073741824 then lowB (4 * heldN n + 2) 4
  else (4 * ((widthN (heldN n) : Int) - 4) + 3) :: lowB (heldN n) (widthN (heldN n))
theorem widthN_range (n : Int) : 4 ≤ widthN n ∧ widthN n ≤ 8 := by unfold widthN; (repeat' split) <;> omega
theorem sizeN_range (n : Int) : 1 ≤ sizeN n ∧ sizeN n ≤ 9 := by have := widthN_range (heldN n); unfold sizeN; (repeat' split) <;> omega
theorem numB_length (n : Int) : (numB n).length = sizeN n := by
  unfold numB sizeN
  split
  · simp [lowB_length]
  · split
    · simp [lowB_length]
    · split
      · simp [lowB_length]
      · simp [lowB_length]; omega
theorem numB_bytes (n : Int) : IsBytes (numB n) := by
  have := widthN_range (heldN n)
  unfold numB
  (repeat' split)
  · exact lowB_bytes _ _
  · exact lowB_bytes _ _
  · exact lowB_bytes _ _
  · intro c h
    rcases List.mem_cons.1 h with rfl | h
    · omega
    · exact lowB_bytes _ _ c h

theorem held_tells (n : Int) : compact_held.f n = some (heldN n) := by
  unfold compact_held.f heldN; rw [mx_eq, mn_eq]

theorem shr_at (n : Int) (m : Nat) (h : m ≤ 64) : shr .i64 n (m : Int) = n / 2 ^ m := by
  unfold shr
  rw [show min ((m : Int)).toNat IntKind.i64.bits = m from by simp [IntKind.bits]; omega]

theorem width_step (k : Nat) (n : Int) (x : Nat) (hx : x < 8) :
    compact_width.l0 (k + 1) n x = if n / 2 ^ (8 * x) > 0 then compact_width.l0 k n ((x + 1 : Nat) : Int) else some (x : Int) := by
  have e : wrap64 (8 * (x : Int)) = ((8 * x : Nat) : Int) := by rw [wrap_in (by omega) (by omega)]; omega
  have e1 : wrap64 ((x : Int) + 1) = ((x + 1 : Nat) : Int) := by rw [wrap_in (by omega) (by omega)]; omega
  rw [compact_width.l0, if_pos (by omega), e, if_pos (by omega), shr_at _ _ (by omega), e1]
theorem width_end (k : Nat) (n : Int) : compact_width.l0 (k + 1) n ((8 : Nat) : Int) = some 8 := by
  rw [compact_width.l0, if_neg (by omega)]; rfl

theorem pos_div (n p : Int) (hp : 0 < p) : (n / p > 0) ↔ p ≤ n := by
  constructor
  · intro h
    have h1 : 1 * p ≤ n := (Int.le_ediv_iff_mul_le hp).1 (by omega)
    omega
  · intro h
    have : 1 ≤ n / p := (Int.le_ediv_iff_mul_le hp).2 (by omega)
    omega

theorem width_tells (k : Nat) (n : Int) (hk : 5 ≤ k) : compact_width.f k n = some (widthN n : Int) := by
  obtain ⟨k, rfl⟩ : ∃ m, k = m + 5 := ⟨k - 5, by omega⟩
  unfold compact_width.f widthN
  have s4 := width_step (k + 4) n 4 (by omega)
  have s5 := width_step (k + 3) n 5 (by omega)
  have s6 := width_step (k + 2) n 6 (by omega)
  have s7 := width_step (k + 1) n 7 (by omega)
  have s8 := width_end k n
  have p4 := pos_div n (2 ^ (8 * 4)) (by decide)
  have p5 := pos_div n (2 ^ (8 * 5)) (by decide)
  have p6 := pos_div n (2 ^ (8 * 6)) (by decide)
  have p7 := pos_div n (2 ^ (8 * 7)) (by decide)
  rw [show ((2 : Int) ^ (8 * 4)) = 4294967296 from by decide] at s4 p4
  rw [show ((2 : Int) ^ (8 * 5)) = 1099511627776 from by decide] at s5 p5
  rw [show ((2 : Int) ^ (8 * 6)) = 281474976710656 from by decide] at s6 p6
  rw [show ((2 : Int) ^ (8 * 7)) = 72057594037927936 from by decide] at s7 p7
  refine Eq.trans s4 ?_
  by_cases h4 : n < 4294967296
  · rw [if_neg (by rw [p4]; omega), if_pos h4]
  · rw [if_pos (by rw [p4]; omega), if_neg h4]
    refine Eq.trans s5 ?_
    by_cases h5 : n < 1099511627776
    · rw [if_neg (by rw [p5]; omega), if_pos h5]
    · rw [if_pos (by rw [p5]; omega), if_neg h5]
      refine Eq.trans s6 ?_
      by_cases h6 : n < 281474976710656
      · rw [if_neg (by rw [p6]; omega), if_pos h6]
      · rw [if_pos (by rw [p6]; omega), if_neg h6]
        refine Eq.trans s7 ?_
        by_cases h7 : n < 72057594037927936
        · rw [if_neg (by rw [p7]; omega), if_pos h7]
        · rw [if_pos (by rw [p7]; omega), if_neg h7]
          exact s8

theorem size_tells (k : Nat) (n : Int) (hk : 5 ≤ k) : compact_Size.f k n = some (sizeN n : Int) := by
  have hw := widthN_range (heldN n)
  unfold compact_Size.f sizeN
  rw [held_tells, Option.bind_some, width_tells k _ hk, Option.bind_some]
  (repeat' split)
  · rfl
  · rfl
  · rfl
  · rw [wrap_in (by omega) (by omega)]; simp

/-! ### laying -/

theorem rd_nat (l : List Int) (i : Nat) (h : i < l.length) : rd l (i : Int) = l[i] := by
  unfold rd
  simp [List.getD_eq_getElem?_getD, h]

end Go.Proofs.YtockdfnnhkhlkaaGreatDoor.PNum

/- What compact.Take tells, plainly. -/
namespace Go.Proofs.YtockdfnnhkhlkaaGreatDoor.PNum
open Go.RowKit Go.Proofs.YtockdfnnhkhlkaaGreatDoor.G Go.Proofs.YtockdfnnhkhlkaaGreatDoorW.PrintWords Go.Proofs.YtockdfnnhkhlkaaGreatDoorW.PrintMore
set_option linter.unusedVariables false
set_option linter.unusedSimpArgs false

def headSize (c : Int) : Nat := if c % 4 = 0 then 1 else if c % 4 = 1 then 2 else if c % 4 = 2 then 4 else 5 + (c / 4).toNat
def valAt (c : Int) (l : List Int) : Int := if c % 4 = 3 then wrap64 (valB ((l.take (headSize c)).drop 1)) else valB (l.take (headSize c)) / 4
def takeAt (c : Int) (l : List Int) : Option (Int × Nat) :=
  if 9 < headSize c ∨ l.length < headSize c then none
  else if valAt c l < 0 ∨ 4611686018427387904 < valAt c l ∨ sizeN (valAt c l) ≠ headSize c then none else some (valAt c l, headSize c)
def takeN : List Int → Option (Int × Nat)
  | [] => none
  | c :: r => takeAt c (c :: r)
def outT : Option (Int × Nat) → Int × Int × Bool
  | none => (0, 0, false)
  | some (n, s) => (n, (s : Int), true)

/-! ### what is told is what was put -/

/-! ### what is told was put -/
theorem takeN_tells {l : List Int} (hl : IsBytes l) {n : Int} {s : Nat} (h : takeN l = some (n, s)) : 0 ≤ n ∧ n ≤ 4611686018427387904 ∧ s = sizeN n ∧ s ≤ l.length ∧ l.take s = numB n := by
  cases l with
  | nil => cases h
  | cons c r =>
    have hc := hl c (by simp)
    change takeAt c (c :: r) = some (n, s) at h
    unfold takeAt at h
    by_cases ha : 9 < headSize c ∨ (c :: r).length < headSize c
    · rw [if_pos ha] at h; cases h
    · rw [if_neg ha] at h
      by_cases hb : valAt c (c :: r) < 0 ∨ 4611686018427387904 < valAt c (c :: r) ∨ sizeN (valAt c (c :: r)) ≠ headSize c
      · rw [if_pos hb] at h; cases h
      · rw [if_neg hb] at h
        injection h with h
        injection h with hn hs
        have q0 : 0 ≤ n := by omega
        have q1 : n ≤ 4611686018427387904 := by omega
        have hss : sizeN n = headSize c := by rw [← hn]; omega
        have hh := heldN_in q0 q1
        have hlen : s ≤ (c :: r).length := by omega
        refine ⟨q0, q1, by omega, hlen, ?_⟩
        have hw := widthN_range n
        have htl : ((c :: r).take s).length = s := by rw [List.length_take]; omega
        have hbt : IsBytes ((c :: r).take s) := hl.take s
        have hlow := lowB_valB _ hbt
        rw [htl] at hlow
        have hs1 : 1 ≤ s := by have := sizeN_range n; omega
        have hcons : (c :: r).take s = c :: r.take (s - 1) := by
          obtain ⟨q, rfl⟩ : ∃ q, s = q + 1 := ⟨s - 1, by omega⟩
          simp
        have hvm : valB ((c :: r).take s) = c + 256 * valB (r.take (s - 1)) := by rw [hcons]; rfl
        rw [hs] at hss
        unfold valAt at hn
        rw [hs] at hn
        unfold headSize at hs
        by_cases c0 : c % 4 = 0
        · rw [if_pos c0] at hs
          rw [if_neg (by omega)] at hn
          have hn1 : n < 64 := by
            unfold sizeN at hss; rw [hh, ← hs] at hss
            by_cases h1 : n < 64
            · exact h1
            · rw [if_neg h1] at hss; (repeat' split at hss) <;> omega
          unfold numB
          rw [hh, if_pos hn1, ← hlow, hvm, ← hs]
          rw [← hs] at hn hvm
          congr 1
          omega
        · rw [if_neg c0] at hs
          by_cases c1 : c % 4 = 1
          · rw [if_pos c1] at hs
            rw [if_neg (by omega)] at hn
            have hn1 : ¬ n < 64 ∧ n < 16384 := by
              unfold sizeN at hss; rw [hh, ← hs] at hss
              by_cases h1 : n < 64
              · rw [if_pos h1] at hss; omega
              · rw [if_neg h1] at hss
                by_cases h2 : n < 16384
                · exact ⟨h1, h2⟩
                · rw [if_neg h2] at hss; (repeat' split at hss) <;> omega
            unfold numB
            rw [hh, if_neg hn1.1, if_pos hn1.2, ← hlow, hvm, ← hs]
            rw [← hs] at hn hvm
            congr 1
            omega
          · rw [if_neg c1] at hs
            by_cases c2 : c % 4 = 2
            · rw [if_pos c2] at hs
              rw [if_neg (by omega)] at hn
              have hn1 : ¬ n < 64 ∧ ¬ n < 16384 ∧ n < 1073741824 := by
                unfold sizeN at hss; rw [hh, ← hs] at hss
                by_cases h1 : n < 64
                · rw [if_pos h1] at hss; omega
                · rw [if_neg h1] at hss
                  by_cases h2 : n < 16384
                  · rw [if_pos h2] at hss; omega
                  · rw [if_neg h2] at hss
                    by_cases h3 : n < 1073741824
                    · exact ⟨h1, h2, h3⟩
                    · rw [if_neg h3] at hss; omega
              unfold numB
              rw [hh, if_neg hn1.1, if_neg hn1.2.1, if_pos hn1.2.2, ← hlow, hvm, ← hs]
              rw [← hs] at hn hvm
              congr 1
              omega
            · rw [if_neg c2] at hs
              rw [if_pos (by omega), hcons, List.drop_one, List.tail_cons] at hn
              have hn1 : ¬ n < 64 ∧ ¬ n < 16384 ∧ ¬ n < 1073741824 := by
                unfold sizeN at hss; rw [hh] at hss
                by_cases h1 : n < 64
                · rw [if_pos h1] at hss; omega
                · rw [if_neg h1] at hss
                  by_cases h2 : n < 16384
                  · rw [if_pos h2] at hss; omega
                  · rw [if_neg h2] at hss
                    by_cases h3 : n < 1073741824
                    · rw [if_pos h3] at hss; omega
                    · exact ⟨h1, h2, h3⟩
              have hsw : s = 1 + widthN n := by
                unfold sizeN at hss; rw [hh, if_neg hn1.1, if_neg hn1.2.1, if_neg hn1.2.2] at hss; omega
              have hr : IsBytes (r.take (s - 1)) := fun x hx => hl x (List.mem_cons_of_mem _ (List.mem_of_mem_take hx))
              have hrl : (r.take (s - 1)).length = widthN n := by rw [List.length_take]; simp at hlen; omega
              have hb := valB_bound _ hr
              have hp : (256 : Int) ^ (r.take (s - 1)).length ≤ 18446744073709551616 := by
                rw [hrl]
                have hx : widthN n = 4 ∨ widthN n = 5 ∨ widthN n = 6 ∨ widthN n = 7 ∨ widthN n = 8 := by omega
                rcases hx with x | x | x | x | x <;> rw [x] <;> decide
              have hv : valB (r.take (s - 1)) = n := by
                have hx : valB (r.take (s - 1)) < 18446744073709551616 := Int.lt_of_lt_of_le hb.2 hp
                have hy := hb.1
                unfold wrap64 at hn
                omega
              have hlr := lowB_valB _ hr
              rw [hv, hrl] at hlr
              unfold numB
              rw [hh, if_neg hn1.1, if_neg hn1.2.1, if_neg hn1.2.2, hcons, hlr]
              congr 1
              omega

end Go.Proofs.YtockdfnnhkhlkaaGreatDoor.PNum
