import Derived.Test.YtdnfknphahmofaaGx0
import Derived.Test.YtdnfknphahmofaaGx3
import Derived.Test.YtdnfknphahmofaaGx7
import Derived.Test.YtdnfknphahmofaaGx9
import Derived.Test.YtdnfknphahmofaaHRowsAll
import Derived.Deep.RegionHeld3
/- CompactRows' contract: laid by gprint.py, turned by turn_rows.py. -/
namespace Go.Proofs.Ytdnfknphahmofaa.G
open Go.RowKit Go.Proofs.YtdnfknphahmofaaW.PrintWords Go.Proofs.YtdnfknphahmofaaW.PrintLast Go.Proofs.YtdnfknphahmofaaW.PrintMore
attribute [local go_sem] max2_int min2_int max_two min_two max_three min_three max_four min_four   -- for this text's walks alone
set_option linter.unusedVariables false
set_option linter.unusedSimpArgs false

/-! ### althinglaw1_CompactRows: function 10 -/
mutual
def althinglaw1_CompactRows.j0 : Nat → List (List Int) → Int → Bool → Option (Bool)
  | 0, _, _, _ => none
  | k + 1, x0, x1, x18 => if x18 = true then (some true) else ((compact_Row.f k ([] : List Int) x0).bind fun t311 => ((althinglaw1_rows.f t311).bind fun bt314 => (if bt314.2 = true then (if (bt314.1.length : Int) = (x0.length : Int) then (althinglaw1_CompactRows.j1 k x0 x1 t311 bt314.1 ((t311.length : Int) == 0)) else (althinglaw1_CompactRows.j1 k x0 x1 t311 bt314.1 true)) else (althinglaw1_CompactRows.j1 k x0 x1 t311 bt314.1 true))))
def althinglaw1_CompactRows.j1 : Nat → List (List Int) → Int → List Int → List (List Int) → Bool → Option (Bool)
  | 0, _, _, _, _, _ => none
  | k + 1, x0, x1, x5, x6, x39 => if x39 = true then (some false) else (althinglaw1_CompactRows.l0 k x0 x1 x5 x6 0)
def althinglaw1_CompactRows.l0 : Nat → List (List Int) → Int → List Int → List (List Int) → Int → Option (Bool)
  | 0, _, _, _, _, _ => none
  | k + 1, x0, x1, x5, x6, x8 => if x8 < (x0.length : Int) then (if 0 ≤ x8 then (if x8 < (x6.length : Int) then (if (strOfNums (rd_L1 x6 x8)).toList = (strOfNums (rd_L1 x0 x8)).toList then (althinglaw1_CompactRows.l0 k x0 x1 x5 x6 (wrap64 (x8 + 1))) else (some false)) else (none)) else (none)) else (if (x5.length : Int) = 0 then (none) else (if 0 ≤ (Int.tmod (Go.bits .and .i64 x1 65535) (x5.length : Int)) then (if (Int.tmod (Go.bits .and .i64 x1 65535) (x5.length : Int)) ≤ (x5.length : Int) then ((althinglaw1_rows.f (x5.take ((Int.tmod (Go.bits .and .i64 x1 65535) (x5.length : Int)) : Int).toNat)).bind fun bt324 => (if bt324.2 = true then (althinglaw1_CompactRows.j3 k x0 bt324.1 (decide ((bt324.1.length : Int) ≥ (x0.length : Int)))) else (althinglaw1_CompactRows.j3 k x0 bt324.1 true))) else (none)) else (none)))
def althinglaw1_CompactRows.j3 : Nat → List (List Int) → List (List Int) → Bool → Option (Bool)
  | 0, _, _, _ => none
  | k + 1, x0, x9, x76 => if x76 = true then (some false) else (althinglaw1_CompactRows.l1 k x0 x9 0)
def althinglaw1_CompactRows.l1 : Nat → List (List Int) → List (List Int) → Int → Option (Bool)
  | 0, _, _, _ => none
  | k + 1, x0, x9, x11 => if x11 < (x9.length : Int) then (if 0 ≤ x11 then (if x11 < (x0.length : Int) then (if (strOfNums (rd_L1 x9 x11)).toList = (strOfNums (rd_L1 x0 x11)).toList then (althinglaw1_CompactRows.l1 k x0 x9 (wrap64 (x11 + 1))) else (some false)) else (none)) else (none)) else ((althinglaw1_known.f k).bind fun t330 => (some t330))
end
def althinglaw1_CompactRows.f (k : Nat) (l0 : List (List Int)) (a1 : Int) : Option (Bool) := (althinglaw1_long.f k l0).bind fun t310 => (if t310 = true then (althinglaw1_CompactRows.j0 k l0 a1 true) else (althinglaw1_CompactRows.j0 k l0 a1 ((l0.length : Int) == 0)))
theorem althinglaw1_CompactRows.mono_l : ∀ k, (∀ y0 y1 y2, LeO (althinglaw1_CompactRows.j0 k y0 y1 y2) (althinglaw1_CompactRows.j0 (k + 1) y0 y1 y2)) ∧ (∀ y0 y1 y2 y3 y4, LeO (althinglaw1_CompactRows.j1 k y0 y1 y2 y3 y4) (althinglaw1_CompactRows.j1 (k + 1) y0 y1 y2 y3 y4)) ∧ (∀ y0 y1 y2 y3 y4, LeO (althinglaw1_CompactRows.l0 k y0 y1 y2 y3 y4) (althinglaw1_CompactRows.l0 (k + 1) y0 y1 y2 y3 y4)) ∧ (∀ y0 y1 y2, LeO (althinglaw1_CompactRows.j3 k y0 y1 y2) (althinglaw1_CompactRows.j3 (k + 1) y0 y1 y2)) ∧ (∀ y0 y1 y2, LeO (althinglaw1_CompactRows.l1 k y0 y1 y2) (althinglaw1_CompactRows.l1 (k + 1) y0 y1 y2))
  | 0 => ⟨fun _ _ _ r h => by simp [althinglaw1_CompactRows.j0] at h, fun _ _ _ _ _ r h => by simp [althinglaw1_CompactRows.j1] at h, fun _ _ _ _ _ r h => by simp [althinglaw1_CompactRows.l0] at h, fun _ _ _ r h => by simp [althinglaw1_CompactRows.j3] at h, fun _ _ _ r h => by simp [althinglaw1_CompactRows.l1] at h⟩
  | k + 1 => by
    obtain ⟨ih0, ih1, ih2, ih3, ih4⟩ := althinglaw1_CompactRows.mono_l k
    refine ⟨?_, ?_, ?_, ?_, ?_⟩
    · intro y0 y1 y2
      unfold althinglaw1_CompactRows.j0
      repeat' first
      | (with_reducible exact ih0 _ _ _)
      | (with_reducible exact ih1 _ _ _ _ _)
      | (with_reducible exact ih2 _ _ _ _ _)
      | (with_reducible exact ih3 _ _ _)
      | (with_reducible exact ih4 _ _ _)
      | (with_reducible exact althinglaw1_known.mono _)
      | (with_reducible exact althinglaw1_long.mono _ _)
      | (with_reducible exact compact_Row.mono _ _ _)
      | (with_reducible exact LeO.refl _)
      | (with_reducible exact LeO.none _)
      | (with_reducible refine LeO.ite ?_ ?_)
      | (with_reducible refine LeO.bind ?_ (fun _ => ?_))
      | exact ih0 _ _ _
      | exact ih1 _ _ _ _ _
      | exact ih2 _ _ _ _ _
      | exact ih3 _ _ _
      | exact ih4 _ _ _
      | exact althinglaw1_known.mono _
      | exact althinglaw1_long.mono _ _
      | exact compact_Row.mono _ _ _
      | exact LeO.none _
      | refine LeO.ite ?_ ?_
      | refine LeO.bind ?_ (fun _ => ?_)
    · intro y0 y1 y2 y3 y4
      unfold althinglaw1_CompactRows.j1
      repeat' first
      | (with_reducible exact ih0 _ _ _)
      | (with_reducible exact ih1 _ _ _ _ _)
      | (with_reducible exact ih2 _ _ _ _ _)
      | (with_reducible exact ih3 _ _ _)
      | (with_reducible exact ih4 _ _ _)
      | (with_reducible exact althinglaw1_known.mono _)
      | (with_reducible exact althinglaw1_long.mono _ _)
      | (with_reducible exact compact_Row.mono _ _ _)
      | (with_reducible exact LeO.refl _)
      | (with_reducible exact LeO.none _)
      | (with_reducible refine LeO.ite ?_ ?_)
      | (with_reducible refine LeO.bind ?_ (fun _ => ?_))
      | exact ih0 _ _ _
      | exact ih1 _ _ _ _ _
      | exact ih2 _ _ _ _ _
      | exact ih3 _ _ _
      | exact ih4 _ _ _
      | exact althinglaw1_known.mono _
      | exact althinglaw1_long.mono _ _
      | exact compact_Row.mono _ _ _
      | exact LeO.none _
      | refine LeO.ite ?_ ?_
      | refine LeO.bind ?_ (fun _ => ?_)
    · intro y0 y1 y2 y3 y4
      unfold althinglaw1_CompactRows.l0
      repeat' first
      | (with_reducible exact ih0 _ _ _)
      | (with_reducible exact ih1 _ _ _ _ _)
      | (with_reducible exact ih2 _ _ _ _ _)
      | (with_reducible exact ih3 _ _ _)
      | (with_reducible exact ih4 _ _ _)
      | (with_reducible exact althinglaw1_known.mono _)
      | (with_reducible exact althinglaw1_long.mono _ _)
      | (with_reducible exact compact_Row.mono _ _ _)
      | (with_reducible exact LeO.refl _)
      | (with_reducible exact LeO.none _)
      | (with_reducible refine LeO.ite ?_ ?_)
      | (with_reducible refine LeO.bind ?_ (fun _ => ?_))
      | exact ih0 _ _ _
      | exact ih1 _ _ _ _ _
      | exact ih2 _ _ _ _ _
      | exact ih3 _ _ _
      | exact ih4 _ _ _
      | exact althinglaw1_known.mono _
      | exact althinglaw1_long.mono _ _
      | exact compact_Row.mono _ _ _
      | exact LeO.none _
      | refine LeO.ite ?_ ?_
      | refine LeO.bind ?_ (fun _ => ?_)
    · intro y0 y1 y2
      unfold althinglaw1_CompactRows.j3
      repeat' first
      | (with_reducible exact ih0 _ _ _)
      | (with_reducible exact ih1 _ _ _ _ _)
      | (with_reducible exact ih2 _ _ _ _ _)
      | (with_reducible exact ih3 _ _ _)
      | (with_reducible exact ih4 _ _ _)
      | (with_reducible exact althinglaw1_known.mono _)
      | (with_reducible exact althinglaw1_long.mono _ _)
      | (with_reducible exact compact_Row.mono _ _ _)
      | (with_reducible exact LeO.refl _)
      | (with_reducible exact LeO.none _)
      | (with_reducible refine LeO.ite ?_ ?_)
      | (with_reducible refine LeO.bind ?_ (fun _ => ?_))
      | exact ih0 _ _ _
      | exact ih1 _ _ _ _ _
      | exact ih2 _ _ _ _ _
      | exact ih3 _ _ _
      | exact ih4 _ _ _
      | exact althinglaw1_known.mono _
      | exact althinglaw1_long.mono _ _
      | exact compact_Row.mono _ _ _
      | exact LeO.none _
      | refine LeO.ite ?_ ?_
      | refine LeO.bind ?_ (fun _ => ?_)
    · intro y0 y1 y2
      unfold althinglaw1_CompactRows.l1
      repeat' first
      | (with_reducible exact ih0 _ _ _)
      | (with_reducible exact ih1 _ _ _ _ _)
      | (with_reducible exact ih2 _ _ _ _ _)
      | (with_reducible exact ih3 _ _ _)
      | (with_reducible exact ih4 _ _ _)
      | (with_reducible exact althinglaw1_known.mono _)
      | (with_reducible exact althinglaw1_long.mono _ _)
      | (with_reducible exact compact_Row.mono _ _ _)
      | (with_reducible exact LeO.refl _)
      | (with_reducible exact LeO.none _)
      | (with_reducible refine LeO.ite ?_ ?_)
      | (with_reducible refine LeO.bind ?_ (fun _ => ?_))
      | exact ih0 _ _ _
      | exact ih1 _ _ _ _ _
      | exact ih2 _ _ _ _ _
      | exact ih3 _ _ _
      | exact ih4 _ _ _
      | exact althinglaw1_known.mono _
      | exact althinglaw1_long.mono _ _
      | exact compact_Row.mono _ _ _
      | exact LeO.none _
      | refine LeO.ite ?_ ?_
      | refine LeO.bind ?_ (fun _ => ?_)
theorem althinglaw1_CompactRows.mono : ∀ a0 a1 k, LeO (althinglaw1_CompactRows.f k a0 a1) (althinglaw1_CompactRows.f (k + 1) a0 a1) := by
  intro a0 a1 k
  obtain ⟨ih0, ih1, ih2, ih3, ih4⟩ := althinglaw1_CompactRows.mono_l k
  unfold althinglaw1_CompactRows.f
  repeat' first
      | (with_reducible exact ih0 _ _ _)
      | (with_reducible exact ih1 _ _ _ _ _)
      | (with_reducible exact ih2 _ _ _ _ _)
      | (with_reducible exact ih3 _ _ _)
      | (with_reducible exact ih4 _ _ _)
      | (with_reducible exact althinglaw1_known.mono _)
      | (with_reducible exact althinglaw1_long.mono _ _)
      | (with_reducible exact compact_Row.mono _ _ _)
      | (with_reducible exact LeO.refl _)
      | (with_reducible exact LeO.none _)
      | (with_reducible refine LeO.ite ?_ ?_)
      | (with_reducible refine LeO.bind ?_ (fun _ => ?_))
      | exact ih0 _ _ _
      | exact ih1 _ _ _ _ _
      | exact ih2 _ _ _ _ _
      | exact ih3 _ _ _
      | exact ih4 _ _ _
      | exact althinglaw1_known.mono _
      | exact althinglaw1_long.mono _ _
      | exact compact_Row.mono _ _ _
      | exact LeO.none _
      | refine LeO.ite ?_ ?_
      | refine LeO.bind ?_ (fun _ => ?_)
set_option maxHeartbeats 8000000 in
set_option maxRecDepth 100000 in
theorem althinglaw1_CompactRows.calls (k : Nat) (A0 : Option Addr) (c0 : Nat) (l0 : List (List Int)) (a1 : Int) (r : Bool) (w : World) (hr0 : Kd.C (Kd.slice 5 (Kd.int .u8)) w A0 l0.length l0) (hc0 : l0.length ≤ c0) (h : althinglaw1_CompactRows.f k l0 a1 = some r) :
    Calls Try.prog 10 #[.slice A0 l0.length c0, .int .i64 a1] w fun e w' => e = .returned (.bool r) ∧ Below w.heap.size w w' := by
  have HR0 := Aside0.mk hr0
  have HC0 := Aside0.mk hc0
  clear hr0 hc0
  have HB := Aside0.mk (Below.refl w.heap.size w)
  have H : ((althinglaw1_long.f k l0).bind fun t310 => (if t310 = true then (althinglaw1_CompactRows.j0 k l0 a1 true) else (althinglaw1_CompactRows.j0 k l0 a1 ((l0.length : Int) == 0)))) = some r := h
  clear h
  have HC3 := Aside0.mk H
  clear H
  go_enter Try.func10, Try.ntmps10
  go_upto_region 1 with (fail)
  repeat (go_quiet (fail); go_upto_region 1 with (fail))
  go_cut [18] (fun v18 wc => ∃ (kq : Nat) (x18_2 : Bool), v18 = .bool x18_2 ∧ Aside0 (althinglaw1_CompactRows.j0 kq l0 a1 x18_2 = some r) ∧ Aside0 (kq ≤ k) ∧ Aside0 (Below w.heap.size w wc))
  case first =>
    have H := HC3.out
    clear HC3
    replace H := Option.bind_eq_some_iff.mp H
    obtain ⟨t310, A40, H⟩ := H
    replace H : (if t310 = true then (althinglaw1_CompactRows.j0 k l0 a1 true) else (althinglaw1_CompactRows.j0 k l0 a1 ((l0.length : Int) == 0))) = some r := H
    have A4 := Aside0.mk A40
    clear A40
    by_cases c5 : t310 = true
    · subst c5
      have H1 : (althinglaw1_CompactRows.j0 k l0 a1 true) = some r := by rw [if_pos rfl] at H; exact H
      clear H
      have H := H1
      clear H1
      have H' := Aside0.mk H
      clear H
      go_wp2_with (first | (go_at_call 19; (with_reducible refine (althinglaw1_long.calls k _ _ l0 true _ ?side1 ?side2 A4.out).mono ?_); (case side1 => repeat (first | exact (Kd.C_below HR0.out HB.out) | (with_reducible refine Kd.C_alloc ?_ _) | (with_reducible refine Kd.C_drewN ?_ _) | (with_reducible refine Kd.C_drew ?_))); (case side2 => exact HC0.out); rintro e w' ⟨rfl, ⟨nd, rfl⟩⟩; (try first | exact ⟨rfl, _, World.drewN_drewN _ _ _⟩ | exact ⟨rfl, _, Eq.trans (World.drewN_drewN _ _ _) (congrArg (World.drewN _) (Nat.add_assoc _ _ _))⟩)))
      repeat (go_quiet (first | (go_at_call 19; (with_reducible refine (althinglaw1_long.calls k _ _ l0 true _ ?side1 ?side2 A4.out).mono ?_); (case side1 => repeat (first | exact (Kd.C_below HR0.out HB.out) | (with_reducible refine Kd.C_alloc ?_ _) | (with_reducible refine Kd.C_drewN ?_ _) | (with_reducible refine Kd.C_drew ?_))); (case side2 => exact HC0.out); rintro e w' ⟨rfl, ⟨nd, rfl⟩⟩; (try first | exact ⟨rfl, _, World.drewN_drewN _ _ _⟩ | exact ⟨rfl, _, Eq.trans (World.drewN_drewN _ _ _) (congrArg (World.drewN _) (Nat.add_assoc _ _ _))⟩))); try go_wp2_with (first | (go_at_call 19; (with_reducible refine (althinglaw1_long.calls k _ _ l0 true _ ?side1 ?side2 A4.out).mono ?_); (case side1 => repeat (first | exact (Kd.C_below HR0.out HB.out) | (with_reducible refine Kd.C_alloc ?_ _) | (with_reducible refine Kd.C_drewN ?_ _) | (with_reducible refine Kd.C_drew ?_))); (case side2 => exact HC0.out); rintro e w' ⟨rfl, ⟨nd, rfl⟩⟩; (try first | exact ⟨rfl, _, World.drewN_drewN _ _ _⟩ | exact ⟨rfl, _, Eq.trans (World.drewN_drewN _ _ _) (congrArg (World.drewN _) (Nat.add_assoc _ _ _))⟩))))
      go_meet
      case rel => exact ⟨_, (true), (by first | rfl | (simp; done) | (simp [*]; done)), H', ⟨by first | omega | exact Nat.le_refl _⟩, ⟨by repeat (first | (with_reducible first | exact HB.out | apply below_alloc | apply pw_below_drewN | apply below_drew1) | exact HB.out)⟩⟩
    · replace c5 := Bool.eq_false_iff.mpr c5
      subst c5
      have H1 : (althinglaw1_CompactRows.j0 k l0 a1 ((l0.length : Int) == 0)) = some r := by rw [if_neg (show ¬ (false = true) by decide)] at H; exact H
      clear H
      have H := H1
      clear H1
      have H' := Aside0.mk H
      clear H
      go_wp2_with (first | (go_at_call 19; (with_reducible refine (althinglaw1_long.calls k _ _ l0 false _ ?side1 ?side2 A4.out).mono ?_); (case side1 => repeat (first | exact (Kd.C_below HR0.out HB.out) | (with_reducible refine Kd.C_alloc ?_ _) | (with_reducible refine Kd.C_drewN ?_ _) | (with_reducible refine Kd.C_drew ?_))); (case side2 => exact HC0.out); rintro e w' ⟨rfl, ⟨nd, rfl⟩⟩; (try first | exact ⟨rfl, _, World.drewN_drewN _ _ _⟩ | exact ⟨rfl, _, Eq.trans (World.drewN_drewN _ _ _) (congrArg (World.drewN _) (Nat.add_assoc _ _ _))⟩)))
      repeat (go_quiet (first | (go_at_call 19; (with_reducible refine (althinglaw1_long.calls k _ _ l0 false _ ?side1 ?side2 A4.out).mono ?_); (case side1 => repeat (first | exact (Kd.C_below HR0.out HB.out) | (with_reducible refine Kd.C_alloc ?_ _) | (with_reducible refine Kd.C_drewN ?_ _) | (with_reducible refine Kd.C_drew ?_))); (case side2 => exact HC0.out); rintro e w' ⟨rfl, ⟨nd, rfl⟩⟩; (try first | exact ⟨rfl, _, World.drewN_drewN _ _ _⟩ | exact ⟨rfl, _, Eq.trans (World.drewN_drewN _ _ _) (congrArg (World.drewN _) (Nat.add_assoc _ _ _))⟩))); try go_wp2_with (first | (go_at_call 19; (with_reducible refine (althinglaw1_long.calls k _ _ l0 false _ ?side1 ?side2 A4.out).mono ?_); (case side1 => repeat (first | exact (Kd.C_below HR0.out HB.out) | (with_reducible refine Kd.C_alloc ?_ _) | (with_reducible refine Kd.C_drewN ?_ _) | (with_reducible refine Kd.C_drew ?_))); (case side2 => exact HC0.out); rintro e w' ⟨rfl, ⟨nd, rfl⟩⟩; (try first | exact ⟨rfl, _, World.drewN_drewN _ _ _⟩ | exact ⟨rfl, _, Eq.trans (World.drewN_drewN _ _ _) (congrArg (World.drewN _) (Nat.add_assoc _ _ _))⟩))))
      go_meet
      case rel => exact ⟨_, (((l0.length : Int) == 0)), (by first | rfl | (simp; done) | (simp [*]; done)), H', ⟨by first | omega | exact Nat.le_refl _⟩, ⟨by repeat (first | (with_reducible first | exact HB.out | apply below_alloc | apply pw_below_drewN | apply below_drew1) | exact HB.out)⟩⟩
  case rest =>
    clear HC3
    try clear c1
    try clear p2
    try clear c5
    obtain ⟨kq, x18_2, rfl, HA, HJ2, HB⟩ := hcut
    cases kq with
    | zero => exact absurd HA.out (by simp [althinglaw1_CompactRows.j0])
    | succ kj2 =>
      have H := HA.out
      clear HA
      simp only [althinglaw1_CompactRows.j0] at H
      by_cases c6 : x18_2 = true
      · subst c6
        have H1 : (some true) = some r := by rw [if_pos rfl] at H; exact H
        clear H
        have H := H1
        clear H1
        obtain rfl := Option.some.inj H
        go_wp2
        repeat (go_quiet (fail); try go_wp2)
        go_ret
        exact ⟨by first | rfl | (simp [errW_none, errW_some] <;> rfl) | (simp [*, errW_none, errW_some] <;> rfl), by repeat (first | (with_reducible first | exact HB.out | apply below_alloc | apply pw_below_drewN | apply below_drew1) | exact HB.out)⟩
      · replace c6 := Bool.eq_false_iff.mpr c6
        subst c6
        have H1 : ((compact_Row.f kj2 ([] : List Int) l0).bind fun t311 => ((althinglaw1_rows.f t311).bind fun bt314 => (if bt314.2 = true then (if (bt314.1.length : Int) = (l0.length : Int) then (althinglaw1_CompactRows.j1 kj2 l0 a1 t311 bt314.1 ((t311.length : Int) == 0)) else (althinglaw1_CompactRows.j1 kj2 l0 a1 t311 bt314.1 true)) else (althinglaw1_CompactRows.j1 kj2 l0 a1 t311 bt314.1 true)))) = some r := by rw [if_neg (show ¬ (false = true) by decide)] at H; exact H
        clear H
        have H := H1
        clear H1
        replace H := Option.bind_eq_some_iff.mp H
        obtain ⟨t311, A70, H⟩ := H
        replace H : ((althinglaw1_rows.f t311).bind fun bt314 => (if bt314.2 = true then (if (bt314.1.length : Int) = (l0.length : Int) then (althinglaw1_CompactRows.j1 kj2 l0 a1 t311 bt314.1 ((t311.length : Int) == 0)) else (althinglaw1_CompactRows.j1 kj2 l0 a1 t311 bt314.1 true)) else (althinglaw1_CompactRows.j1 kj2 l0 a1 t311 bt314.1 true))) = some r := H
        have A7 := Aside0.mk A70
        clear A70
        replace H := Option.bind_eq_some_iff.mp H
        obtain ⟨⟨t314, t315⟩, A80, H⟩ := H
        replace H : (if t315 = true then (if (t314.length : Int) = (l0.length : Int) then (althinglaw1_CompactRows.j1 kj2 l0 a1 t311 t314 ((t311.length : Int) == 0)) else (althinglaw1_CompactRows.j1 kj2 l0 a1 t311 t314 true)) else (althinglaw1_CompactRows.j1 kj2 l0 a1 t311 t314 true)) = some r := H
        have A8 := Aside0.mk A80
        clear A80
        have HC9 := Aside0.mk H
        clear H
        go_upto_region 5 with (first | (go_at_call 24; (refine (compact_Row.calls kj2 _ _ ([] : List Int) _ _ l0 t311 _ ?side1 ?side2 ?side3 ?side4 A7.out).mono ?_); (case side1 => exact Kd.C_nil _ _); (case side2 => exact Nat.le_refl _); (case side3 => repeat (first | exact (Kd.C_below HR0.out HB.out) | (with_reducible refine Kd.C_alloc ?_ _) | (with_reducible refine Kd.C_drewN ?_ _) | (with_reducible refine Kd.C_drew ?_))); (case side4 => exact HC0.out); rintro e w10 ⟨v312, rfl, ho0, hb⟩; have n0_ := Aside0.mk (Kd.R_lower ho0 (below_size (by repeat (first | (with_reducible first | exact HB.out | apply below_alloc | apply pw_below_drewN | apply below_drew1) | exact HB.out)))); have n1_ := Aside0.mk (below_step (by repeat (first | (with_reducible first | exact HB.out | apply below_alloc | apply pw_below_drewN | apply below_drew1) | exact HB.out)) hb); clear HB; have HO313 := n0_; have HB := n1_; clear n0_ n1_; (try clear hb); (try clear hb2); (try clear hk); (try clear hi); (try clear ho0); obtain ⟨Ao11, co11, eo11⟩ := Kd.R_slice HO313.out; subst eo11) | (go_at_call 27; (with_reducible refine (althinglaw1_rows.calls _ _ t311 t314 t315 _ ?side1 ?side2 A8.out).mono ?_); (case side1 => repeat (first | exact (Kd.R_reads' HO313.out).2.2 | (with_reducible refine Kd.C_alloc ?_ _) | (with_reducible refine Kd.C_drewN ?_ _) | (with_reducible refine Kd.C_drew ?_))); (case side2 => exact (Kd.R_reads' HO313.out).2.1); rintro e w12 ⟨v316, rfl, ho0, hb⟩; have n0_ := Aside0.mk (Kd.R_below (by (with_reducible repeat (first | apply Kd.R_alloc | apply Kd.R_drewN | apply Kd.R_drew)); exact HO313.out) hb); have n1_ := Aside0.mk (Kd.S_lower (Kd.S_new' ho0 (Kd.R_lt (by (with_reducible repeat (first | apply Kd.R_alloc | apply Kd.R_drewN | apply Kd.R_drew)); exact HO313.out))) (below_size (by repeat (first | (with_reducible first | exact HB.out | apply below_alloc | apply pw_below_drewN | apply below_drew1) | exact HB.out)))); have n2_ := Aside0.mk (below_step (by repeat (first | (with_reducible first | exact HB.out | apply below_alloc | apply pw_below_drewN | apply below_drew1) | exact HB.out)) hb); clear HO313; clear HB; have HO313 := n0_; have HO317 := n1_; have HB := n2_; clear n0_ n1_ n2_; (try clear hb); (try clear hb2); (try clear hk); (try clear hi); (try clear ho0)))
        repeat (go_quiet (first | (go_at_call 24; (refine (compact_Row.calls kj2 _ _ ([] : List Int) _ _ l0 t311 _ ?side1 ?side2 ?side3 ?side4 A7.out).mono ?_); (case side1 => exact Kd.C_nil _ _); (case side2 => exact Nat.le_refl _); (case side3 => repeat (first | exact (Kd.C_below HR0.out HB.out) | (with_reducible refine Kd.C_alloc ?_ _) | (with_reducible refine Kd.C_drewN ?_ _) | (with_reducible refine Kd.C_drew ?_))); (case side4 => exact HC0.out); rintro e w10 ⟨v312, rfl, ho0, hb⟩; have n0_ := Aside0.mk (Kd.R_lower ho0 (below_size (by repeat (first | (with_reducible first | exact HB.out | apply below_alloc | apply pw_below_drewN | apply below_drew1) | exact HB.out)))); have n1_ := Aside0.mk (below_step (by repeat (first | (with_reducible first | exact HB.out | apply below_alloc | apply pw_below_drewN | apply below_drew1) | exact HB.out)) hb); clear HB; have HO313 := n0_; have HB := n1_; clear n0_ n1_; (try clear hb); (try clear hb2); (try clear hk); (try clear hi); (try clear ho0); obtain ⟨Ao11, co11, eo11⟩ := Kd.R_slice HO313.out; subst eo11) | (go_at_call 27; (with_reducible refine (althinglaw1_rows.calls _ _ t311 t314 t315 _ ?side1 ?side2 A8.out).mono ?_); (case side1 => repeat (first | exact (Kd.R_reads' HO313.out).2.2 | (with_reducible refine Kd.C_alloc ?_ _) | (with_reducible refine Kd.C_drewN ?_ _) | (with_reducible refine Kd.C_drew ?_))); (case side2 => exact (Kd.R_reads' HO313.out).2.1); rintro e w12 ⟨v316, rfl, ho0, hb⟩; have n0_ := Aside0.mk (Kd.R_below (by (with_reducible repeat (first | apply Kd.R_alloc | apply Kd.R_drewN | apply Kd.R_drew)); exact HO313.out) hb); have n1_ := Aside0.mk (Kd.S_lower (Kd.S_new' ho0 (Kd.R_lt (by (with_reducible repeat (first | apply Kd.R_alloc | apply Kd.R_drewN | apply Kd.R_drew)); exact HO313.out))) (below_size (by repeat (first | (with_reducible first | exact HB.out | apply below_alloc | apply pw_below_drewN | apply below_drew1) | exact HB.out)))); have n2_ := Aside0.mk (below_step (by repeat (first | (with_reducible first | exact HB.out | apply below_alloc | apply pw_below_drewN | apply below_drew1) | exact HB.out)) hb); clear HO313; clear HB; have HO313 := n0_; have HO317 := n1_; have HB := n2_; clear n0_ n1_ n2_; (try clear hb); (try clear hb2); (try clear hk); (try clear hi); (try clear ho0))); go_upto_region 5 with (first | (go_at_call 24; (refine (compact_Row.calls kj2 _ _ ([] : List Int) _ _ l0 t311 _ ?side1 ?side2 ?side3 ?side4 A7.out).mono ?_); (case side1 => exact Kd.C_nil _ _); (case side2 => exact Nat.le_refl _); (case side3 => repeat (first | exact (Kd.C_below HR0.out HB.out) | (with_reducible refine Kd.C_alloc ?_ _) | (with_reducible refine Kd.C_drewN ?_ _) | (with_reducible refine Kd.C_drew ?_))); (case side4 => exact HC0.out); rintro e w10 ⟨v312, rfl, ho0, hb⟩; have n0_ := Aside0.mk (Kd.R_lower ho0 (below_size (by repeat (first | (with_reducible first | exact HB.out | apply below_alloc | apply pw_below_drewN | apply below_drew1) | exact HB.out)))); have n1_ := Aside0.mk (below_step (by repeat (first | (with_reducible first | exact HB.out | apply below_alloc | apply pw_below_drewN | apply below_drew1) | exact HB.out)) hb); clear HB; have HO313 := n0_; have HB := n1_; clear n0_ n1_; (try clear hb); (try clear hb2); (try clear hk); (try clear hi); (try clear ho0); obtain ⟨Ao11, co11, eo11⟩ := Kd.R_slice HO313.out; subst eo11) | (go_at_call 27; (with_reducible refine (althinglaw1_rows.calls _ _ t311 t314 t315 _ ?side1 ?side2 A8.out).mono ?_); (case side1 => repeat (first | exact (Kd.R_reads' HO313.out).2.2 | (with_reducible refine Kd.C_alloc ?_ _) | (with_reducible refine Kd.C_drewN ?_ _) | (with_reducible refine Kd.C_drew ?_))); (case side2 => exact (Kd.R_reads' HO313.out).2.1); rintro e w12 ⟨v316, rfl, ho0, hb⟩; have n0_ := Aside0.mk (Kd.R_below (by (with_reducible repeat (first | apply Kd.R_alloc | apply Kd.R_drewN | apply Kd.R_drew)); exact HO313.out) hb); have n1_ := Aside0.mk (Kd.S_lower (Kd.S_new' ho0 (Kd.R_lt (by (with_reducible repeat (first | apply Kd.R_alloc | apply Kd.R_drewN | apply Kd.R_drew)); exact HO313.out))) (below_size (by repeat (first | (with_reducible first | exact HB.out | apply below_alloc | apply pw_below_drewN | apply below_drew1) | exact HB.out)))); have n2_ := Aside0.mk (below_step (by repeat (first | (with_reducible first | exact HB.out | apply below_alloc | apply pw_below_drewN | apply below_drew1) | exact HB.out)) hb); clear HO313; clear HB; have HO313 := n0_; have HO317 := n1_; have HB := n2_; clear n0_ n1_ n2_; (try clear hb); (try clear hb2); (try clear hk); (try clear hi); (try clear ho0))))
        (try simp only [Act.put, List.setIfInBounds_toArray, List.set_cons_zero, List.set_cons_succ])
        go_cut [39] (fun v39 wc => ∃ (kq : Nat) (x39_8 : Bool), v39 = .bool x39_8 ∧ Aside0 (althinglaw1_CompactRows.j1 kq l0 a1 t311 t314 x39_8 = some r) ∧ Aside0 (kq ≤ kj2) ∧ Aside0 (Kd.R (Kd.int .u8) 5 wc w.heap.size (fun _ => True) (.slice Ao11 t311.length co11) t311) ∧ Aside0 (Kd.S (Kd.slice 5 (Kd.int .u8)) 23 wc w.heap.size (fun k_ => some k_ ≠ ((.slice Ao11 t311.length co11) : Value).ownBlock) v316 t314) ∧ Aside0 (Below w.heap.size w wc))
        case first =>
          have H := HC9.out
          clear HC9
          by_cases c13 : t315 = true
          · subst c13
            have H1 : (if (t314.length : Int) = (l0.length : Int) then (althinglaw1_CompactRows.j1 kj2 l0 a1 t311 t314 ((t311.length : Int) == 0)) else (althinglaw1_CompactRows.j1 kj2 l0 a1 t311 t314 true)) = some r := by rw [if_pos rfl] at H; exact H
            clear H
            have H := H1
            clear H1
            by_cases c14 : (t314.length : Int) = (l0.length : Int)
            · rw [if_pos c14] at H
              have c14b0 : ((t314.length : Int) == (l0.length : Int)) = true := beq_iff_eq.mpr c14
              have c14b1 : ((t314.length : Int) != (l0.length : Int)) = false := bne_eq_false_iff_eq.mpr c14
              have c14b2 : (t314.length == l0.length) = true := by first | simpa using c14 | (simp at c14 ⊢; omega)
              clear c14
              (first | rw [c14b0] | (simp only [i64_w, i32_w]; rw [c14b0]) | skip)
              have H' := Aside0.mk H
              clear H
              obtain ⟨Ao15, co15, eo15⟩ := Kd.S_slice HO317.out
              subst eo15
              go_wp2
              repeat (go_quiet (fail); try go_wp2)
              go_meet
              case rel => exact ⟨_, (((t311.length : Int) == 0)), (by first | rfl | (simp; done) | (simp [*]; done)), H', ⟨by have := HJ2.out; first | omega | exact Nat.le_refl _⟩, ⟨by (with_reducible repeat (first | apply Kd.R_alloc | apply Kd.R_drewN | apply Kd.R_drew)); exact HO313.out⟩, ⟨by (with_reducible repeat (first | apply Kd.S_alloc | apply Kd.S_drewN | apply Kd.S_drew)); exact Kd.S_mono HO317.out (fun _ hk => hk.2)⟩, ⟨by repeat (first | (with_reducible first | exact HB.out | apply below_alloc | apply pw_below_drewN | apply below_drew1) | exact HB.out)⟩⟩
            · rw [if_neg c14] at H
              have c14b0 : ((t314.length : Int) == (l0.length : Int)) = false := beq_eq_false_iff_ne.mpr c14
              have c14b1 : ((t314.length : Int) != (l0.length : Int)) = true := bne_iff_ne.mpr c14
              have c14b2 : (t314.length == l0.length) = false := by first | simpa using c14 | (simp at c14 ⊢; omega)
              (first | rw [c14b0] | (simp only [i64_w, i32_w]; rw [c14b0]) | skip)
              have H' := Aside0.mk H
              clear H
              obtain ⟨Ao16, co16, eo16⟩ := Kd.S_slice HO317.out
              subst eo16
              go_wp2
              repeat (go_quiet (fail); try go_wp2)
              go_meet
              case rel => exact ⟨_, (true), (by first | rfl | (simp; done) | (simp [*]; done)), H', ⟨by have := HJ2.out; first | omega | exact Nat.le_refl _⟩, ⟨by (with_reducible repeat (first | apply Kd.R_alloc | apply Kd.R_drewN | apply Kd.R_drew)); exact HO313.out⟩, ⟨by (with_reducible repeat (first | apply Kd.S_alloc | apply Kd.S_drewN | apply Kd.S_drew)); exact Kd.S_mono HO317.out (fun _ hk => hk.2)⟩, ⟨by repeat (first | (with_reducible first | exact HB.out | apply below_alloc | apply pw_below_drewN | apply below_drew1) | exact HB.out)⟩⟩
          · replace c13 := Bool.eq_false_iff.mpr c13
            subst c13
            have H1 : (althinglaw1_CompactRows.j1 kj2 l0 a1 t311 t314 true) = some r := by rw [if_neg (show ¬ (false = true) by decide)] at H; exact H
            clear H
            have H := H1
            clear H1
            have H' := Aside0.mk H
            clear H
            go_wp2
            repeat (go_quiet (fail); try go_wp2)
            go_meet
            case rel => exact ⟨_, (true), (by first | rfl | (simp; done) | (simp [*]; done)), H', ⟨by have := HJ2.out; first | omega | exact Nat.le_refl _⟩, ⟨by (with_reducible repeat (first | apply Kd.R_alloc | apply Kd.R_drewN | apply Kd.R_drew)); exact HO313.out⟩, ⟨by (with_reducible repeat (first | apply Kd.S_alloc | apply Kd.S_drewN | apply Kd.S_drew)); exact Kd.S_mono HO317.out (fun _ hk => hk.2)⟩, ⟨by repeat (first | (with_reducible first | exact HB.out | apply below_alloc | apply pw_below_drewN | apply below_drew1) | exact HB.out)⟩⟩
        case rest =>
          clear HC9
          try clear c1
          try clear p2
          try clear c5
          try clear c6
          try clear c10
          try clear c13
          try clear c14
          try clear c14b0
          try clear c14b1
          try clear c14b2
          try clear p2
          obtain ⟨kq, x39_8, rfl, HA, HJ8, HO_5, HO_6, HB⟩ := hcut
          cases kq with
          | zero => exact absurd HA.out (by simp [althinglaw1_CompactRows.j1])
          | succ kj8 =>
            have H := HA.out
            clear HA
            simp only [althinglaw1_CompactRows.j1] at H
            by_cases c17 : x39_8 = true
            · subst c17
              have H1 : (some false) = some r := by rw [if_pos rfl] at H; exact H
              clear H
              have H := H1
              clear H1
              obtain rfl := Option.some.inj H
              go_wp2
              repeat (go_quiet (fail); try go_wp2)
              go_ret
              exact ⟨by first | rfl | (simp [errW_none, errW_some] <;> rfl) | (simp [*, errW_none, errW_some] <;> rfl), by repeat (first | (with_reducible first | exact HB.out | apply below_alloc | apply pw_below_drewN | apply below_drew1) | exact HB.out)⟩
            · replace c17 := Bool.eq_false_iff.mpr c17
              subst c17
              have H1 : (althinglaw1_CompactRows.l0 kj8 l0 a1 t311 t314 0) = some r := by rw [if_neg (show ¬ (false = true) by decide)] at H; exact H
              clear H
              have H := H1
              clear H1
              have H' := Aside0.mk H
              clear H
              go_wp2
              repeat (go_quiet (fail); try go_wp2)
              go_loopg [8] kj8 (fun kq v8 w' => ∃ (x8_3 : Int), v8 = .int .i64 x8_3 ∧ Aside0 (althinglaw1_CompactRows.l0 kq l0 a1 t311 t314 x8_3 = some r) ∧ Aside0 (kq ≤ kj8) ∧ Aside0 (Kd.R (Kd.int .u8) 5 w' w.heap.size (fun _ => True) (.slice Ao11 t311.length co11) t311) ∧ Aside0 (Kd.S (Kd.slice 5 (Kd.int .u8)) 23 w' w.heap.size (fun k_ => some k_ ≠ ((.slice Ao11 t311.length co11) : Value).ownBlock) v316 t314) ∧ Aside0 (Below w.heap.size w w'))
              case atStart => exact ⟨(0), (by first | rfl | (simp; done) | (simp [*]; done)), H', ⟨Nat.le_refl _⟩, ⟨by (with_reducible repeat (first | apply Kd.R_alloc | apply Kd.R_drewN | apply Kd.R_drew)); exact HO_5.out⟩, ⟨by (with_reducible repeat (first | apply Kd.S_alloc | apply Kd.S_drewN | apply Kd.S_drew)); exact HO_6.out⟩, ⟨by repeat (first | (with_reducible first | exact HB.out | apply below_alloc | apply pw_below_drewN | apply below_drew1) | exact HB.out)⟩⟩
              case round =>
                clear H'
                try clear c1
                try clear p2
                try clear c5
                try clear c6
                try clear c10
                try clear c13
                try clear c14
                try clear c14b0
                try clear c14b1
                try clear c14b2
                try clear c17
                try clear p2
                obtain ⟨x8_3, rfl, HA, HK3, HO_5, HO_6, HB⟩ := hrel
                cases gk with
                | zero => exact absurd HA.out (by simp [althinglaw1_CompactRows.l0])
                | succ k3 =>
                  have H := HA.out
                  clear HA
                  simp only [althinglaw1_CompactRows.l0] at H
                  by_cases c18 : x8_3 < (l0.length : Int)
                  · rw [if_pos c18] at H
                    have c18b0 : decide (x8_3 < (l0.length : Int)) = true := decide_eq_true c18
                    clear c18
                    by_cases c19 : 0 ≤ x8_3
                    · rw [if_pos c19] at H
                      have c19b0 : decide (0 ≤ x8_3) = true := decide_eq_true c19
                      clear c19
                      by_cases c20 : x8_3 < (t314.length : Int)
                      · rw [if_pos c20] at H
                        have c20b0 : decide (x8_3 < (t314.length : Int)) = true := decide_eq_true c20
                        clear c20
                        by_cases c21 : (strOfNums (rd_L1 t314 x8_3)).toList = (strOfNums (rd_L1 l0 x8_3)).toList
                        · rw [if_pos c21] at H
                          have c21b0 : ((strOfNums (rd_L1 t314 x8_3)).toList == (strOfNums (rd_L1 l0 x8_3)).toList) = true := beq_iff_eq.mpr c21
                          have c21b1 : ((strOfNums (rd_L1 t314 x8_3)).toList != (strOfNums (rd_L1 l0 x8_3)).toList) = false := bne_eq_false_iff_eq.mpr c21
                          clear c21
                          have H' := Aside0.mk H
                          clear H
                          obtain ⟨Ao22, co22, eo22⟩ := Kd.S_slice HO_6.out
                          subst eo22
                          have p318 : 0 ≤ (x8_3 : Int) := of_decide_eq_true (by first | (with_reducible assumption) | assumption)
                          have q318 : x8_3 < (t314.length : Int) := of_decide_eq_true (by first | (with_reducible assumption) | assumption)
                          obtain ⟨ad318, A318_0, c318_0, e318, hx318_0, hl318_0, hi318_0⟩ := at_L1 (Kd.S_reads' HO_6.out).2.2 x8_3 p318 q318
                          cases e318
                          obtain ⟨ce318, hce318, hMe318, hcc318⟩ := Kd.S_get HO_6.out [] x8_3 p318 (by first | exact q318 | exact of_decide_eq_true (by first | (with_reducible assumption) | assumption) | (have e_ := (Kd.S_reads' HO_6.out).1; omega))
                          obtain ⟨ve318_0, rfl, ge318_0⟩ := hMe318
                          have hv318_0 := hcc318 0 _ rfl
                          rw [Nat.add_zero, show ((Kd.slice 5 (Kd.int .u8))).sz = 1 from rfl, Nat.mul_one] at hv318_0
                          replace hv318_0 := Option.some.inj (hv318_0.symm.trans hx318_0)
                          rw [hv318_0] at ge318_0
                          have HL318_0 := Aside0.mk (show Kd.R (Kd.int .u8) 5 _ _ _ _ (rd_L1 t314 x8_3) from ge318_0)
                          clear hv318_0 ge318_0
                          clear hcc318 hce318
                          have HR318_0 := Aside0.mk hi318_0
                          have HC318_0 := Aside0.mk hl318_0
                          clear hi318_0 hl318_0
                          replace p318 := eq_true p318
                          replace q318 := eq_true q318
                          have p319 : 0 ≤ (x8_3 : Int) := of_decide_eq_true (by first | (with_reducible assumption) | assumption)
                          have q319 : x8_3 < (l0.length : Int) := of_decide_eq_true (by first | (with_reducible assumption) | assumption)
                          obtain ⟨ad319, A319_0, c319_0, e319, hx319_0, hl319_0, hi319_0⟩ := at_L1 HR0.out x8_3 p319 q319
                          cases e319
                          replace hx319_0 := (HB.out.cell (World.block_lt_of_cell? w _ hx319_0)).trans hx319_0
                          have HR319_0 := Aside0.mk hi319_0
                          have HC319_0 := Aside0.mk hl319_0
                          clear hi319_0 hl319_0
                          replace p319 := eq_true p319
                          replace q319 := eq_true q319
                          go_upto_region 10 with fail
                          go_region_held3 (fun w' => w'.cell? (ad318.add x8_3.toNat) = some (.slice A318_0 (rd_L1 t314 x8_3).length c318_0) ∧ w'.cell? (ad319.add x8_3.toNat) = some (.slice A319_0 (rd_L1 l0 x8_3).length c319_0) ∧ (convert 23 9 (.slice A318_0 (rd_L1 t314 x8_3).length c318_0)).run Try.prog w' = .ok (.string (strOfNums (rd_L1 t314 x8_3))) w' ∧ (convert 23 9 (.slice A319_0 (rd_L1 l0 x8_3).length c319_0)).run Try.prog w' = .ok (.string (strOfNums (rd_L1 l0 x8_3))) w') ((first | assumption | (refine ⟨by simp [*], by simp [*], (Kd.C_string (P := Try.prog) Try.underlying23 Try.underlying5 Try.underlying9 (Kd.C_drew (HR318_0.out))), (Kd.C_string (P := Try.prog) Try.underlying23 Try.underlying5 Try.underlying9 (Kd.C_drew ((Kd.C_below HR319_0.out HB.out))))⟩))) (fail)
                          go_wp2
                          repeat (go_quiet (fail); try go_wp2)
                          go_roundg k3
                          case measure => have := HJ2.out; have := HJ8.out; have := HK3.out; omega
                          case rel => exact ⟨(wrap64 (x8_3 + 1)), (by first | rfl | (simp; done) | (simp [*]; done)), H', ⟨by have := HJ2.out; have := HJ8.out; have := HK3.out; omega⟩, ⟨by (with_reducible repeat (first | apply Kd.R_alloc | apply Kd.R_drewN | apply Kd.R_drew)); exact HO_5.out⟩, ⟨by (with_reducible repeat (first | apply Kd.S_alloc | apply Kd.S_drewN | apply Kd.S_drew)); exact HO_6.out⟩, ⟨by repeat (first | (with_reducible first | exact HB.out | apply below_alloc | apply pw_below_drewN | apply below_drew1) | exact HB.out)⟩⟩
                        · rw [if_neg c21] at H
                          have c21b0 : ((strOfNums (rd_L1 t314 x8_3)).toList == (strOfNums (rd_L1 l0 x8_3)).toList) = false := beq_eq_false_iff_ne.mpr c21
                          have c21b1 : ((strOfNums (rd_L1 t314 x8_3)).toList != (strOfNums (rd_L1 l0 x8_3)).toList) = true := bne_iff_ne.mpr c21
                          obtain rfl := Option.some.inj H
                          obtain ⟨Ao25, co25, eo25⟩ := Kd.S_slice HO_6.out
                          subst eo25
                          have p318 : 0 ≤ (x8_3 : Int) := of_decide_eq_true (by first | (with_reducible assumption) | assumption)
                          have q318 : x8_3 < (t314.length : Int) := of_decide_eq_true (by first | (with_reducible assumption) | assumption)
                          obtain ⟨ad318, A318_0, c318_0, e318, hx318_0, hl318_0, hi318_0⟩ := at_L1 (Kd.S_reads' HO_6.out).2.2 x8_3 p318 q318
                          cases e318
                          obtain ⟨ce318, hce318, hMe318, hcc318⟩ := Kd.S_get HO_6.out [] x8_3 p318 (by first | exact q318 | exact of_decide_eq_true (by first | (with_reducible assumption) | assumption) | (have e_ := (Kd.S_reads' HO_6.out).1; omega))
                          obtain ⟨ve318_0, rfl, ge318_0⟩ := hMe318
                          have hv318_0 := hcc318 0 _ rfl
                          rw [Nat.add_zero, show ((Kd.slice 5 (Kd.int .u8))).sz = 1 from rfl, Nat.mul_one] at hv318_0
                          replace hv318_0 := Option.some.inj (hv318_0.symm.trans hx318_0)
                          rw [hv318_0] at ge318_0
                          have HL318_0 := Aside0.mk (show Kd.R (Kd.int .u8) 5 _ _ _ _ (rd_L1 t314 x8_3) from ge318_0)
                          clear hv318_0 ge318_0
                          clear hcc318 hce318
                          have HR318_0 := Aside0.mk hi318_0
                          have HC318_0 := Aside0.mk hl318_0
                          clear hi318_0 hl318_0
                          replace p318 := eq_true p318
                          replace q318 := eq_true q318
                          have p319 : 0 ≤ (x8_3 : Int) := of_decide_eq_true (by first | (with_reducible assumption) | assumption)
                          have q319 : x8_3 < (l0.length : Int) := of_decide_eq_true (by first | (with_reducible assumption) | assumption)
                          obtain ⟨ad319, A319_0, c319_0, e319, hx319_0, hl319_0, hi319_0⟩ := at_L1 HR0.out x8_3 p319 q319
                          cases e319
                          replace hx319_0 := (HB.out.cell (World.block_lt_of_cell? w _ hx319_0)).trans hx319_0
                          have HR319_0 := Aside0.mk hi319_0
                          have HC319_0 := Aside0.mk hl319_0
                          clear hi319_0 hl319_0
                          replace p319 := eq_true p319
                          replace q319 := eq_true q319
                          go_upto_region 10 with fail
                          go_region_held3 (fun w' => w'.cell? (ad318.add x8_3.toNat) = some (.slice A318_0 (rd_L1 t314 x8_3).length c318_0) ∧ w'.cell? (ad319.add x8_3.toNat) = some (.slice A319_0 (rd_L1 l0 x8_3).length c319_0) ∧ (convert 23 9 (.slice A318_0 (rd_L1 t314 x8_3).length c318_0)).run Try.prog w' = .ok (.string (strOfNums (rd_L1 t314 x8_3))) w' ∧ (convert 23 9 (.slice A319_0 (rd_L1 l0 x8_3).length c319_0)).run Try.prog w' = .ok (.string (strOfNums (rd_L1 l0 x8_3))) w') ((first | assumption | (refine ⟨by simp [*], by simp [*], (Kd.C_string (P := Try.prog) Try.underlying23 Try.underlying5 Try.underlying9 (Kd.C_drew (HR318_0.out))), (Kd.C_string (P := Try.prog) Try.underlying23 Try.underlying5 Try.underlying9 (Kd.C_drew ((Kd.C_below HR319_0.out HB.out))))⟩))) (fail)
                          go_wp2
                          repeat (go_quiet (fail); try go_wp2)
                          go_ret
                          exact ⟨by first | rfl | (simp [errW_none, errW_some] <;> rfl) | (simp [*, errW_none, errW_some] <;> rfl), by repeat (first | (with_reducible first | exact HB.out | apply below_alloc | apply pw_below_drewN | apply below_drew1) | exact HB.out)⟩
                      · rw [if_neg c20] at H
                        exact absurd H (by simp)
                    · rw [if_neg c19] at H
                      exact absurd H (by simp)
                  · rw [if_neg c18] at H
                    have c18b0 : decide (x8_3 < (l0.length : Int)) = false := decide_eq_false c18
                    clear c18
                    by_cases c28 : (t311.length : Int) = 0
                    · rw [if_pos c28] at H
                      exact absurd H (by simp)
                    · rw [if_neg c28] at H
                      have c28b0 : ((t311.length : Int) == 0) = false := beq_eq_false_iff_ne.mpr c28
                      have c28b1 : ((t311.length : Int) != 0) = true := bne_iff_ne.mpr c28
                      have c28b2 : ¬ (t311 = []) := fun h_ => c28 (by rw [h_]; rfl)
                      obtain ⟨ji29, hji29⟩ : ∃ j_ : Int, (Int.tmod (Go.bits .and .i64 a1 65535) (t311.length : Int)) = j_ := ⟨_, rfl⟩
                      replace H : (if 0 ≤ (ji29) then (if (ji29) ≤ (t311.length : Int) then ((althinglaw1_rows.f (t311.take ((ji29) : Int).toNat)).bind fun bt324 => (if bt324.2 = true then (althinglaw1_CompactRows.j3 k3 l0 bt324.1 (decide ((bt324.1.length : Int) ≥ (l0.length : Int)))) else (althinglaw1_CompactRows.j3 k3 l0 bt324.1 true))) else (none)) else (none)) = some r := by first | (rw [hji29] at H; exact H) | (simp only [hji29] at H ⊢; exact H)
                      by_cases c30 : 0 ≤ (ji29)
                      · rw [if_pos c30] at H
                        have c30b0 := eq_true c30
                        have c30b1 : decide (0 ≤ (ji29)) = true := decide_eq_true c30
                        clear c30
                        by_cases c31 : (ji29) ≤ (t311.length : Int)
                        · rw [if_pos c31] at H
                          have c31b0 := eq_true c31
                          have c31b1 : decide ((ji29) ≤ (t311.length : Int)) = true := decide_eq_true c31
                          clear c31
                          obtain ⟨y320, hy320⟩ : ∃ y_ : List Int, y_ = (t311.take ((ji29) : Int).toNat) := ⟨_, rfl⟩
                          replace H : ((althinglaw1_rows.f y320).bind fun bt324 => (if bt324.2 = true then (althinglaw1_CompactRows.j3 k3 l0 bt324.1 (decide ((bt324.1.length : Int) ≥ (l0.length : Int)))) else (althinglaw1_CompactRows.j3 k3 l0 bt324.1 true))) = some r := by first | (rw [hy320]; with_reducible exact H) | (have H2_ := (Option.bind_some _ _).symm.trans H; rw [hy320]; with_reducible exact H2_) | (have H2_ := (Option.bind_some _ _).symm.trans H; with_reducible exact H2_) | with_reducible exact H | (rw [hy320]; exact H) | exact H
                          have Ny320 := Aside0.mk hy320
                          clear hy320
                          replace H := Option.bind_eq_some_iff.mp H
                          obtain ⟨⟨t324, t325⟩, A320, H⟩ := H
                          replace H : (if t325 = true then (althinglaw1_CompactRows.j3 k3 l0 t324 (decide ((t324.length : Int) ≥ (l0.length : Int)))) else (althinglaw1_CompactRows.j3 k3 l0 t324 true)) = some r := H
                          have A32 := Aside0.mk A320
                          clear A320
                          have HC33 := Aside0.mk H
                          clear H
                          have q34 : ((ji29) : Int) ≤ ((t311.length : Int) : Int) := of_decide_eq_true (by first | (with_reducible assumption) | assumption)
                          obtain ⟨i034, hi034, _, hsz34, _⟩ := info_parts info5
                          have hroom34 : t311.length ≤ co11 := (Kd.R_reads' HO_5.out).2.1
                          have hC34 : Kd.C (Kd.int .u8) _ Ao11 t311.length t311 := (Kd.R_reads' HO_5.out).2.2
                          have hcut34 := cut_to (P := Try.prog) 23 5 .i64 Try.underlying23 hi034 Ao11 t311.length co11 (ji29) (of_decide_eq_true (by first | (with_reducible assumption) | assumption)) q34 hroom34
                          have hr34 := Kd.C_take (m := ((ji29) : Int).toNat) hC34 (by omega)
                          have hy34 : y320.length = ((ji29) : Int).toNat := (by rw [Ny320.out, List.length_take]; omega)
                          rw [← Ny320.out] at hr34
                          rw [← hy34] at hcut34
                          have HR323 := Aside0.mk hr34
                          have HC323 := Aside0.mk (show y320.length ≤ co11 from by omega)
                          clear hr34 hC34 hroom34 hi034 hsz34
                          have KY34 := Aside0.mk hy34
                          clear hy34
                          have KL34 := Aside0.mk (show ((ji29) : Int).toNat ≤ t311.length from by omega)
                          replace q34 := eq_true q34
                          go_upto_region 13 with (first | (go_at_call 27; (with_reducible refine (althinglaw1_rows.calls _ _ y320 t324 t325 _ ?side1 ?side2 A32.out).mono ?_); (case side1 => repeat (first | exact (by repeat (first | (with_reducible exact HR323.out) | (with_reducible refine Kd.C_alloc ?_ _) | (with_reducible refine Kd.C_drewN ?_ _) | (with_reducible refine Kd.C_drew ?_) | exact HR323.out)) | (with_reducible refine Kd.C_alloc ?_ _) | (with_reducible refine Kd.C_drewN ?_ _) | (with_reducible refine Kd.C_drew ?_))); (case side2 => exact HC323.out); rintro e w35 ⟨v326, rfl, ho0, hb⟩; have n0_ := Aside0.mk (Kd.R_below (by (with_reducible repeat (first | apply Kd.R_alloc | apply Kd.R_drewN | apply Kd.R_drew)); exact HO_5.out) hb); have n1_ := Aside0.mk (Kd.S_elder' (by (with_reducible repeat (first | apply Kd.S_alloc | apply Kd.S_drewN | apply Kd.S_drew)); exact HO_6.out) (Kd.S_base ho0) hb); have n2_ := Aside0.mk (Kd.S_lower (Kd.S_new' (Kd.S_new' ho0 (Kd.R_lt (by (with_reducible repeat (first | apply Kd.R_alloc | apply Kd.R_drewN | apply Kd.R_drew)); exact HO_5.out))) (Kd.S_lt (by (with_reducible repeat (first | apply Kd.S_alloc | apply Kd.S_drewN | apply Kd.S_drew)); exact HO_6.out))) (below_size (by repeat (first | (with_reducible first | exact HB.out | apply below_alloc | apply pw_below_drewN | apply below_drew1) | exact HB.out)))); have n3_ := Aside0.mk (Kd.C_below (by repeat (first | (with_reducible exact HR323.out) | (with_reducible refine Kd.C_alloc ?_ _) | (with_reducible refine Kd.C_drewN ?_ _) | (with_reducible refine Kd.C_drew ?_) | exact HR323.out)) hb); have n4_ := Aside0.mk (below_step (by repeat (first | (with_reducible first | exact HB.out | apply below_alloc | apply pw_below_drewN | apply below_drew1) | exact HB.out)) hb); clear HO_5; clear HO_6; clear HR323; clear HB; have HO_5 := n0_; have HO_6 := n1_; have HO327 := n2_; have HR323 := n3_; have HB := n4_; clear n0_ n1_ n2_ n3_ n4_; (try clear hb); (try clear hb2); (try clear hk); (try clear hi); (try clear ho0)))
                          repeat (go_quiet (first | (go_at_call 27; (with_reducible refine (althinglaw1_rows.calls _ _ y320 t324 t325 _ ?side1 ?side2 A32.out).mono ?_); (case side1 => repeat (first | exact (by repeat (first | (with_reducible exact HR323.out) | (with_reducible refine Kd.C_alloc ?_ _) | (with_reducible refine Kd.C_drewN ?_ _) | (with_reducible refine Kd.C_drew ?_) | exact HR323.out)) | (with_reducible refine Kd.C_alloc ?_ _) | (with_reducible refine Kd.C_drewN ?_ _) | (with_reducible refine Kd.C_drew ?_))); (case side2 => exact HC323.out); rintro e w35 ⟨v326, rfl, ho0, hb⟩; have n0_ := Aside0.mk (Kd.R_below (by (with_reducible repeat (first | apply Kd.R_alloc | apply Kd.R_drewN | apply Kd.R_drew)); exact HO_5.out) hb); have n1_ := Aside0.mk (Kd.S_elder' (by (with_reducible repeat (first | apply Kd.S_alloc | apply Kd.S_drewN | apply Kd.S_drew)); exact HO_6.out) (Kd.S_base ho0) hb); have n2_ := Aside0.mk (Kd.S_lower (Kd.S_new' (Kd.S_new' ho0 (Kd.R_lt (by (with_reducible repeat (first | apply Kd.R_alloc | apply Kd.R_drewN | apply Kd.R_drew)); exact HO_5.out))) (Kd.S_lt (by (with_reducible repeat (first | apply Kd.S_alloc | apply Kd.S_drewN | apply Kd.S_drew)); exact HO_6.out))) (below_size (by repeat (first | (with_reducible first | exact HB.out | apply below_alloc | apply pw_below_drewN | apply below_drew1) | exact HB.out)))); have n3_ := Aside0.mk (Kd.C_below (by repeat (first | (with_reducible exact HR323.out) | (with_reducible refine Kd.C_alloc ?_ _) | (with_reducible refine Kd.C_drewN ?_ _) | (with_reducible refine Kd.C_drew ?_) | exact HR323.out)) hb); have n4_ := Aside0.mk (below_step (by repeat (first | (with_reducible first | exact HB.out | apply below_alloc | apply pw_below_drewN | apply below_drew1) | exact HB.out)) hb); clear HO_5; clear HO_6; clear HR323; clear HB; have HO_5 := n0_; have HO_6 := n1_; have HO327 := n2_; have HR323 := n3_; have HB := n4_; clear n0_ n1_ n2_ n3_ n4_; (try clear hb); (try clear hb2); (try clear hk); (try clear hi); (try clear ho0))); go_upto_region 13 with (first | (go_at_call 27; (with_reducible refine (althinglaw1_rows.calls _ _ y320 t324 t325 _ ?side1 ?side2 A32.out).mono ?_); (case side1 => repeat (first | exact (by repeat (first | (with_reducible exact HR323.out) | (with_reducible refine Kd.C_alloc ?_ _) | (with_reducible refine Kd.C_drewN ?_ _) | (with_reducible refine Kd.C_drew ?_) | exact HR323.out)) | (with_reducible refine Kd.C_alloc ?_ _) | (with_reducible refine Kd.C_drewN ?_ _) | (with_reducible refine Kd.C_drew ?_))); (case side2 => exact HC323.out); rintro e w35 ⟨v326, rfl, ho0, hb⟩; have n0_ := Aside0.mk (Kd.R_below (by (with_reducible repeat (first | apply Kd.R_alloc | apply Kd.R_drewN | apply Kd.R_drew)); exact HO_5.out) hb); have n1_ := Aside0.mk (Kd.S_elder' (by (with_reducible repeat (first | apply Kd.S_alloc | apply Kd.S_drewN | apply Kd.S_drew)); exact HO_6.out) (Kd.S_base ho0) hb); have n2_ := Aside0.mk (Kd.S_lower (Kd.S_new' (Kd.S_new' ho0 (Kd.R_lt (by (with_reducible repeat (first | apply Kd.R_alloc | apply Kd.R_drewN | apply Kd.R_drew)); exact HO_5.out))) (Kd.S_lt (by (with_reducible repeat (first | apply Kd.S_alloc | apply Kd.S_drewN | apply Kd.S_drew)); exact HO_6.out))) (below_size (by repeat (first | (with_reducible first | exact HB.out | apply below_alloc | apply pw_below_drewN | apply below_drew1) | exact HB.out)))); have n3_ := Aside0.mk (Kd.C_below (by repeat (first | (with_reducible exact HR323.out) | (with_reducible refine Kd.C_alloc ?_ _) | (with_reducible refine Kd.C_drewN ?_ _) | (with_reducible refine Kd.C_drew ?_) | exact HR323.out)) hb); have n4_ := Aside0.mk (below_step (by repeat (first | (with_reducible first | exact HB.out | apply below_alloc | apply pw_below_drewN | apply below_drew1) | exact HB.out)) hb); clear HO_5; clear HO_6; clear HR323; clear HB; have HO_5 := n0_; have HO_6 := n1_; have HO327 := n2_; have HR323 := n3_; have HB := n4_; clear n0_ n1_ n2_ n3_ n4_; (try clear hb); (try clear hb2); (try clear hk); (try clear hi); (try clear ho0))))
                          (try simp only [Act.put, List.setIfInBounds_toArray, List.set_cons_zero, List.set_cons_succ])
                          go_cut [76] (fun v76 wc => ∃ (kq : Nat) (x76_32 : Bool), v76 = .bool x76_32 ∧ Aside0 (althinglaw1_CompactRows.j3 kq l0 t324 x76_32 = some r) ∧ Aside0 (kq ≤ k3) ∧ Aside0 (Kd.S (Kd.slice 5 (Kd.int .u8)) 23 wc w.heap.size (fun _ => True) v326 t324) ∧ Aside0 (Kd.C (Kd.int .u8) wc Ao11 y320.length y320) ∧ Aside0 (Below w.heap.size w wc))
                          case first =>
                            have H := HC33.out
                            clear HC33
                            by_cases c36 : t325 = true
                            · subst c36
                              have H1 : (althinglaw1_CompactRows.j3 k3 l0 t324 (decide ((t324.length : Int) ≥ (l0.length : Int)))) = some r := by rw [if_pos rfl] at H; exact H
                              clear H
                              have H := H1
                              clear H1
                              have H' := Aside0.mk H
                              clear H
                              obtain ⟨Ao37, co37, eo37⟩ := Kd.S_slice HO327.out
                              subst eo37
                              go_wp2
                              repeat (go_quiet (fail); try go_wp2)
                              go_meet
                              case rel => exact ⟨_, (decide ((t324.length : Int) ≥ (l0.length : Int))), (by first | rfl | (simp; done) | (simp [*]; done)), H', ⟨by have := HJ2.out; have := HJ8.out; have := HK3.out; first | omega | exact Nat.le_refl _⟩, ⟨by (with_reducible repeat (first | apply Kd.S_alloc | apply Kd.S_drewN | apply Kd.S_drew)); exact Kd.S_mono HO327.out (fun _ hk => trivial)⟩, ⟨by repeat (first | (with_reducible exact HR323.out) | (with_reducible refine Kd.C_alloc ?_ _) | (with_reducible refine Kd.C_drewN ?_ _) | (with_reducible refine Kd.C_drew ?_) | exact HR323.out)⟩, ⟨by repeat (first | (with_reducible first | exact HB.out | apply below_alloc | apply pw_below_drewN | apply below_drew1) | exact HB.out)⟩⟩
                            · replace c36 := Bool.eq_false_iff.mpr c36
                              subst c36
                              have H1 : (althinglaw1_CompactRows.j3 k3 l0 t324 true) = some r := by rw [if_neg (show ¬ (false = true) by decide)] at H; exact H
                              clear H
                              have H := H1
                              clear H1
                              have H' := Aside0.mk H
                              clear H
                              go_wp2
                              repeat (go_quiet (fail); try go_wp2)
                              go_meet
                              case rel => exact ⟨_, (true), (by first | rfl | (simp; done) | (simp [*]; done)), H', ⟨by have := HJ2.out; have := HJ8.out; have := HK3.out; first | omega | exact Nat.le_refl _⟩, ⟨by (with_reducible repeat (first | apply Kd.S_alloc | apply Kd.S_drewN | apply Kd.S_drew)); exact Kd.S_mono HO327.out (fun _ hk => trivial)⟩, ⟨by repeat (first | (with_reducible exact HR323.out) | (with_reducible refine Kd.C_alloc ?_ _) | (with_reducible refine Kd.C_drewN ?_ _) | (with_reducible refine Kd.C_drew ?_) | exact HR323.out)⟩, ⟨by repeat (first | (with_reducible first | exact HB.out | apply below_alloc | apply pw_below_drewN | apply below_drew1) | exact HB.out)⟩⟩
                          case rest =>
                            clear HC33
                            try clear c1
                            try clear c2
                            try clear p2
                            try clear hcv2
                            try clear c3
                            try clear p3
                            try clear q3
                            try clear hx3
                            try clear c5
                            try clear c6
                            try clear p6
                            try clear c10
                            try clear c13
                            try clear c14
                            try clear c14b0
                            try clear c14b1
                            try clear c14b2
                            try clear c17
                            try clear c18
                            try clear c18b0
                            try clear c19
                            try clear c19b0
                            try clear c20
                            try clear c20b0
                            try clear c21
                            try clear c21b0
                            try clear c21b1
                            try clear hcv23
                            try clear hcv24
                            try clear hcv26
                            try clear hcv27
                            try clear c28
                            try clear c28b0
                            try clear c28b1
                            try clear c28b2
                            try clear c30
                            try clear c30b0
                            try clear c30b1
                            try clear c31
                            try clear c31b0
                            try clear c31b1
                            try clear p31
                            try clear q31
                            try clear hx31
                            try clear q34
                            try clear c36
                            try clear hx318_0
                            try clear hx319_0
                            try clear p2
                            try clear p318
                            try clear p319
                            try clear q318
                            try clear q319
                            try clear q34
                            obtain ⟨kq, x76_32, rfl, HA, HJ32, HO_9, HR323, HB⟩ := hcut
                            cases kq with
                            | zero => exact absurd HA.out (by simp [althinglaw1_CompactRows.j3])
                            | succ kj32 =>
                              have H := HA.out
                              clear HA
                              simp only [althinglaw1_CompactRows.j3] at H
                              by_cases c38 : x76_32 = true
                              · subst c38
                                have H1 : (some false) = some r := by rw [if_pos rfl] at H; exact H
                                clear H
                                have H := H1
                                clear H1
                                obtain rfl := Option.some.inj H
                                go_wp2
                                repeat (go_quiet (fail); try go_wp2)
                                go_ret
                                exact ⟨by first | rfl | (simp [errW_none, errW_some] <;> rfl) | (simp only [← hji29]; first | rfl | (simp [errW_none, errW_some] <;> rfl)) | (simp [*, errW_none, errW_some] <;> rfl), by repeat (first | (with_reducible first | exact HB.out | apply below_alloc | apply pw_below_drewN | apply below_drew1) | exact HB.out)⟩
                              · replace c38 := Bool.eq_false_iff.mpr c38
                                subst c38
                                have H1 : (althinglaw1_CompactRows.l1 kj32 l0 t324 0) = some r := by rw [if_neg (show ¬ (false = true) by decide)] at H; exact H
                                clear H
                                have H := H1
                                clear H1
                                have H' := Aside0.mk H
                                clear H
                                go_wp2
                                repeat (go_quiet (fail); try go_wp2)
                                go_loopg [11] kj32 (fun kq v11 w' => ∃ (x11_5 : Int), v11 = .int .i64 x11_5 ∧ Aside0 (althinglaw1_CompactRows.l1 kq l0 t324 x11_5 = some r) ∧ Aside0 (kq ≤ kj32) ∧ Aside0 (Kd.S (Kd.slice 5 (Kd.int .u8)) 23 w' w.heap.size (fun _ => True) v326 t324) ∧ Aside0 (Kd.C (Kd.int .u8) w' Ao11 y320.length y320) ∧ Aside0 (Below w.heap.size w w'))
                                case atStart => exact ⟨(0), (by first | rfl | (simp; done) | (simp [*]; done)), H', ⟨Nat.le_refl _⟩, ⟨by (with_reducible repeat (first | apply Kd.S_alloc | apply Kd.S_drewN | apply Kd.S_drew)); exact HO_9.out⟩, ⟨by repeat (first | (with_reducible exact HR323.out) | (with_reducible refine Kd.C_alloc ?_ _) | (with_reducible refine Kd.C_drewN ?_ _) | (with_reducible refine Kd.C_drew ?_) | exact HR323.out)⟩, ⟨by repeat (first | (with_reducible first | exact HB.out | apply below_alloc | apply pw_below_drewN | apply below_drew1) | exact HB.out)⟩⟩
                                case round =>
                                  clear H'
                                  try clear c1
                                  try clear c2
                                  try clear p2
                                  try clear hcv2
                                  try clear c3
                                  try clear p3
                                  try clear q3
                                  try clear hx3
                                  try clear c5
                                  try clear c6
                                  try clear p6
                                  try clear c10
                                  try clear c13
                                  try clear c14
                                  try clear c14b0
                                  try clear c14b1
                                  try clear c14b2
                                  try clear c17
                                  try clear c18
                                  try clear c18b0
                                  try clear c19
                                  try clear c19b0
                                  try clear c20
                                  try clear c20b0
                                  try clear c21
                                  try clear c21b0
                                  try clear c21b1
                                  try clear hcv23
                                  try clear hcv24
                                  try clear hcv26
                                  try clear hcv27
                                  try clear c28
                                  try clear c28b0
                                  try clear c28b1
                                  try clear c28b2
                                  try clear c30
                                  try clear c30b0
                                  try clear c30b1
                                  try clear c31
                                  try clear c31b0
                                  try clear c31b1
                                  try clear p31
                                  try clear q31
                                  try clear hx31
                                  try clear q34
                                  try clear c36
                                  try clear c38
                                  try clear hx318_0
                                  try clear hx319_0
                                  try clear p2
                                  try clear p3
                                  try clear p31
                                  try clear p318
                                  try clear p319
                                  try clear p6
                                  try clear q3
                                  try clear q31
                                  try clear q318
                                  try clear q319
                                  try clear q34
                                  obtain ⟨x11_5, rfl, HA, HK5, HO_9, HR323, HB⟩ := hrel
                                  cases gk with
                                  | zero => exact absurd HA.out (by simp [althinglaw1_CompactRows.l1])
                                  | succ k5 =>
                                    have H := HA.out
                                    clear HA
                                    simp only [althinglaw1_CompactRows.l1] at H
                                    by_cases c39 : x11_5 < (t324.length : Int)
                                    · rw [if_pos c39] at H
                                      have c39b0 : decide (x11_5 < (t324.length : Int)) = true := decide_eq_true c39
                                      clear c39
                                      by_cases c40 : 0 ≤ x11_5
                                      · rw [if_pos c40] at H
                                        have c40b0 : decide (0 ≤ x11_5) = true := decide_eq_true c40
                                        clear c40
                                        by_cases c41 : x11_5 < (l0.length : Int)
                                        · rw [if_pos c41] at H
                                          have c41b0 : decide (x11_5 < (l0.length : Int)) = true := decide_eq_true c41
                                          clear c41
                                          by_cases c42 : (strOfNums (rd_L1 t324 x11_5)).toList = (strOfNums (rd_L1 l0 x11_5)).toList
                                          · rw [if_pos c42] at H
                                            have c42b0 : ((strOfNums (rd_L1 t324 x11_5)).toList == (strOfNums (rd_L1 l0 x11_5)).toList) = true := beq_iff_eq.mpr c42
                                            have c42b1 : ((strOfNums (rd_L1 t324 x11_5)).toList != (strOfNums (rd_L1 l0 x11_5)).toList) = false := bne_eq_false_iff_eq.mpr c42
                                            clear c42
                                            have H' := Aside0.mk H
                                            clear H
                                            obtain ⟨Ao43, co43, eo43⟩ := Kd.S_slice HO_9.out
                                            subst eo43
                                            have p328 : 0 ≤ (x11_5 : Int) := of_decide_eq_true (by first | (with_reducible assumption) | assumption)
                                            have q328 : x11_5 < (t324.length : Int) := of_decide_eq_true (by first | (with_reducible assumption) | assumption)
                                            obtain ⟨ad328, A328_0, c328_0, e328, hx328_0, hl328_0, hi328_0⟩ := at_L1 (Kd.S_reads' HO_9.out).2.2 x11_5 p328 q328
                                            cases e328
                                            obtain ⟨ce328, hce328, hMe328, hcc328⟩ := Kd.S_get HO_9.out [] x11_5 p328 (by first | exact q328 | exact of_decide_eq_true (by first | (with_reducible assumption) | assumption) | (have e_ := (Kd.S_reads' HO_9.out).1; omega))
                                            obtain ⟨ve328_0, rfl, ge328_0⟩ := hMe328
                                            have hv328_0 := hcc328 0 _ rfl
                                            rw [Nat.add_zero, show ((Kd.slice 5 (Kd.int .u8))).sz = 1 from rfl, Nat.mul_one] at hv328_0
                                            replace hv328_0 := Option.some.inj (hv328_0.symm.trans hx328_0)
                                            rw [hv328_0] at ge328_0
                                            have HL328_0 := Aside0.mk (show Kd.R (Kd.int .u8) 5 _ _ _ _ (rd_L1 t324 x11_5) from ge328_0)
                                            clear hv328_0 ge328_0
                                            clear hcc328 hce328
                                            have HR328_0 := Aside0.mk hi328_0
                                            have HC328_0 := Aside0.mk hl328_0
                                            clear hi328_0 hl328_0
                                            replace p328 := eq_true p328
                                            replace q328 := eq_true q328
                                            have p329 : 0 ≤ (x11_5 : Int) := of_decide_eq_true (by first | (with_reducible assumption) | assumption)
                                            have q329 : x11_5 < (l0.length : Int) := of_decide_eq_true (by first | (with_reducible assumption) | assumption)
                                            obtain ⟨ad329, A329_0, c329_0, e329, hx329_0, hl329_0, hi329_0⟩ := at_L1 HR0.out x11_5 p329 q329
                                            cases e329
                                            replace hx329_0 := (HB.out.cell (World.block_lt_of_cell? w _ hx329_0)).trans hx329_0
                                            have HR329_0 := Aside0.mk hi329_0
                                            have HC329_0 := Aside0.mk hl329_0
                                            clear hi329_0 hl329_0
                                            replace p329 := eq_true p329
                                            replace q329 := eq_true q329
                                            go_upto_region 18 with fail
                                            go_region_held3 (fun w' => w'.cell? (ad328.add x11_5.toNat) = some (.slice A328_0 (rd_L1 t324 x11_5).length c328_0) ∧ w'.cell? (ad329.add x11_5.toNat) = some (.slice A329_0 (rd_L1 l0 x11_5).length c329_0) ∧ (convert 23 9 (.slice A328_0 (rd_L1 t324 x11_5).length c328_0)).run Try.prog w' = .ok (.string (strOfNums (rd_L1 t324 x11_5))) w' ∧ (convert 23 9 (.slice A329_0 (rd_L1 l0 x11_5).length c329_0)).run Try.prog w' = .ok (.string (strOfNums (rd_L1 l0 x11_5))) w') ((first | assumption | (refine ⟨by simp [*], by simp [*], (Kd.C_string (P := Try.prog) Try.underlying23 Try.underlying5 Try.underlying9 (Kd.C_drew (HR328_0.out))), (Kd.C_string (P := Try.prog) Try.underlying23 Try.underlying5 Try.underlying9 (Kd.C_drew ((Kd.C_below HR329_0.out HB.out))))⟩))) (fail)
                                            go_wp2
                                            repeat (go_quiet (fail); try go_wp2)
                                            go_roundg k5
                                            case measure => have := HJ2.out; have := HJ8.out; have := HK3.out; have := HJ32.out; have := HK5.out; omega
                                            case rel => exact ⟨(wrap64 (x11_5 + 1)), (by first | rfl | (simp; done) | (simp [*]; done)), H', ⟨by have := HJ2.out; have := HJ8.out; have := HK3.out; have := HJ32.out; have := HK5.out; omega⟩, ⟨by (with_reducible repeat (first | apply Kd.S_alloc | apply Kd.S_drewN | apply Kd.S_drew)); exact HO_9.out⟩, ⟨by repeat (first | (with_reducible exact HR323.out) | (with_reducible refine Kd.C_alloc ?_ _) | (with_reducible refine Kd.C_drewN ?_ _) | (with_reducible refine Kd.C_drew ?_) | exact HR323.out)⟩, ⟨by repeat (first | (with_reducible first | exact HB.out | apply below_alloc | apply pw_below_drewN | apply below_drew1) | exact HB.out)⟩⟩
                                          · rw [if_neg c42] at H
                                            have c42b0 : ((strOfNums (rd_L1 t324 x11_5)).toList == (strOfNums (rd_L1 l0 x11_5)).toList) = false := beq_eq_false_iff_ne.mpr c42
                                            have c42b1 : ((strOfNums (rd_L1 t324 x11_5)).toList != (strOfNums (rd_L1 l0 x11_5)).toList) = true := bne_iff_ne.mpr c42
                                            obtain rfl := Option.some.inj H
                                            obtain ⟨Ao46, co46, eo46⟩ := Kd.S_slice HO_9.out
                                            subst eo46
                                            have p328 : 0 ≤ (x11_5 : Int) := of_decide_eq_true (by first | (with_reducible assumption) | assumption)
                                            have q328 : x11_5 < (t324.length : Int) := of_decide_eq_true (by first | (with_reducible assumption) | assumption)
                                            obtain ⟨ad328, A328_0, c328_0, e328, hx328_0, hl328_0, hi328_0⟩ := at_L1 (Kd.S_reads' HO_9.out).2.2 x11_5 p328 q328
                                            cases e328
                                            obtain ⟨ce328, hce328, hMe328, hcc328⟩ := Kd.S_get HO_9.out [] x11_5 p328 (by first | exact q328 | exact of_decide_eq_true (by first | (with_reducible assumption) | assumption) | (have e_ := (Kd.S_reads' HO_9.out).1; omega))
                                            obtain ⟨ve328_0, rfl, ge328_0⟩ := hMe328
                                            have hv328_0 := hcc328 0 _ rfl
                                            rw [Nat.add_zero, show ((Kd.slice 5 (Kd.int .u8))).sz = 1 from rfl, Nat.mul_one] at hv328_0
                                            replace hv328_0 := Option.some.inj (hv328_0.symm.trans hx328_0)
                                            rw [hv328_0] at ge328_0
                                            have HL328_0 := Aside0.mk (show Kd.R (Kd.int .u8) 5 _ _ _ _ (rd_L1 t324 x11_5) from ge328_0)
                                            clear hv328_0 ge328_0
                                            clear hcc328 hce328
                                            have HR328_0 := Aside0.mk hi328_0
                                            have HC328_0 := Aside0.mk hl328_0
                                            clear hi328_0 hl328_0
                                            replace p328 := eq_true p328
                                            replace q328 := eq_true q328
                                            have p329 : 0 ≤ (x11_5 : Int) := of_decide_eq_true (by first | (with_reducible assumption) | assumption)
                                            have q329 : x11_5 < (l0.length : Int) := of_decide_eq_true (by first | (with_reducible assumption) | assumption)
                                            obtain ⟨ad329, A329_0, c329_0, e329, hx329_0, hl329_0, hi329_0⟩ := at_L1 HR0.out x11_5 p329 q329
                                            cases e329
                                            replace hx329_0 := (HB.out.cell (World.block_lt_of_cell? w _ hx329_0)).trans hx329_0
                                            have HR329_0 := Aside0.mk hi329_0
                                            have HC329_0 := Aside0.mk hl329_0
                                            clear hi329_0 hl329_0
                                            replace p329 := eq_true p329
                                            replace q329 := eq_true q329
                                            go_upto_region 18 with fail
                                            go_region_held3 (fun w' => w'.cell? (ad328.add x11_5.toNat) = some (.slice A328_0 (rd_L1 t324 x11_5).length c328_0) ∧ w'.cell? (ad329.add x11_5.toNat) = some (.slice A329_0 (rd_L1 l0 x11_5).length c329_0) ∧ (convert 23 9 (.slice A328_0 (rd_L1 t324 x11_5).length c328_0)).run Try.prog w' = .ok (.string (strOfNums (rd_L1 t324 x11_5))) w' ∧ (convert 23 9 (.slice A329_0 (rd_L1 l0 x11_5).length c329_0)).run Try.prog w' = .ok (.string (strOfNums (rd_L1 l0 x11_5))) w') ((first | assumption | (refine ⟨by simp [*], by simp [*], (Kd.C_string (P := Try.prog) Try.underlying23 Try.underlying5 Try.underlying9 (Kd.C_drew (HR328_0.out))), (Kd.C_string (P := Try.prog) Try.underlying23 Try.underlying5 Try.underlying9 (Kd.C_drew ((Kd.C_below HR329_0.out HB.out))))⟩))) (fail)
                                            go_wp2
                                            repeat (go_quiet (fail); try go_wp2)
                                            go_ret
                                            exact ⟨by first | rfl | (simp [errW_none, errW_some] <;> rfl) | (simp only [← hji29]; first | rfl | (simp [errW_none, errW_some] <;> rfl)) | (simp [*, errW_none, errW_some] <;> rfl), by repeat (first | (with_reducible first | exact HB.out | apply below_alloc | apply pw_below_drewN | apply below_drew1) | exact HB.out)⟩
                                        · rw [if_neg c41] at H
                                          exact absurd H (by simp)
                                      · rw [if_neg c40] at H
                                        exact absurd H (by simp)
                                    · rw [if_neg c39] at H
                                      have c39b0 : decide (x11_5 < (t324.length : Int)) = false := decide_eq_false c39
                                      clear c39
                                      replace H := Option.bind_eq_some_iff.mp H
                                      obtain ⟨t330, A490, H⟩ := H
                                      replace H : (some t330) = some r := H
                                      have A49 := Aside0.mk A490
                                      clear A490
                                      obtain rfl := Option.some.inj H
                                      obtain ⟨Ao50, co50, eo50⟩ := Kd.S_slice HO_9.out
                                      subst eo50
                                      go_wp2_with (first | (go_at_call 14; (with_reducible refine (althinglaw1_known.calls k5  t330 _ A49.out).mono ?_); rintro e w51 ⟨rfl, hb⟩; have n0_ := Aside0.mk (Kd.S_below (by (with_reducible repeat (first | apply Kd.S_alloc | apply Kd.S_drewN | apply Kd.S_drew)); exact HO_9.out) hb); have n1_ := Aside0.mk (Kd.C_below (by repeat (first | (with_reducible exact HR323.out) | (with_reducible refine Kd.C_alloc ?_ _) | (with_reducible refine Kd.C_drewN ?_ _) | (with_reducible refine Kd.C_drew ?_) | exact HR323.out)) hb); have n2_ := Aside0.mk (below_step (by repeat (first | (with_reducible first | exact HB.out | apply below_alloc | apply pw_below_drewN | apply below_drew1) | exact HB.out)) hb); clear HO_9; clear HR323; clear HB; have HO_9 := n0_; have HR323 := n1_; have HB := n2_; clear n0_ n1_ n2_; (try clear hb); (try clear hb2); (try clear hk); (try clear hi)))
                                      repeat (go_quiet (first | (go_at_call 14; (with_reducible refine (althinglaw1_known.calls k5  t330 _ A49.out).mono ?_); rintro e w51 ⟨rfl, hb⟩; have n0_ := Aside0.mk (Kd.S_below (by (with_reducible repeat (first | apply Kd.S_alloc | apply Kd.S_drewN | apply Kd.S_drew)); exact HO_9.out) hb); have n1_ := Aside0.mk (Kd.C_below (by repeat (first | (with_reducible exact HR323.out) | (with_reducible refine Kd.C_alloc ?_ _) | (with_reducible refine Kd.C_drewN ?_ _) | (with_reducible refine Kd.C_drew ?_) | exact HR323.out)) hb); have n2_ := Aside0.mk (below_step (by repeat (first | (with_reducible first | exact HB.out | apply below_alloc | apply pw_below_drewN | apply below_drew1) | exact HB.out)) hb); clear HO_9; clear HR323; clear HB; have HO_9 := n0_; have HR323 := n1_; have HB := n2_; clear n0_ n1_ n2_; (try clear hb); (try clear hb2); (try clear hk); (try clear hi))); try go_wp2_with (first | (go_at_call 14; (with_reducible refine (althinglaw1_known.calls k5  t330 _ A49.out).mono ?_); rintro e w51 ⟨rfl, hb⟩; have n0_ := Aside0.mk (Kd.S_below (by (with_reducible repeat (first | apply Kd.S_alloc | apply Kd.S_drewN | apply Kd.S_drew)); exact HO_9.out) hb); have n1_ := Aside0.mk (Kd.C_below (by repeat (first | (with_reducible exact HR323.out) | (with_reducible refine Kd.C_alloc ?_ _) | (with_reducible refine Kd.C_drewN ?_ _) | (with_reducible refine Kd.C_drew ?_) | exact HR323.out)) hb); have n2_ := Aside0.mk (below_step (by repeat (first | (with_reducible first | exact HB.out | apply below_alloc | apply pw_below_drewN | apply below_drew1) | exact HB.out)) hb); clear HO_9; clear HR323; clear HB; have HO_9 := n0_; have HR323 := n1_; have HB := n2_; clear n0_ n1_ n2_; (try clear hb); (try clear hb2); (try clear hk); (try clear hi))))
                                      go_ret
                                      exact ⟨by first | rfl | (simp [errW_none, errW_some] <;> rfl) | (simp only [← hji29]; first | rfl | (simp [errW_none, errW_some] <;> rfl)) | (simp [*, errW_none, errW_some] <;> rfl), by repeat (first | (with_reducible first | exact HB.out | apply below_alloc | apply pw_below_drewN | apply below_drew1) | exact HB.out)⟩
                        · rw [if_neg c31] at H
                          exact absurd H (by simp)
                      · rw [if_neg c30] at H
                        exact absurd H (by simp)

end Go.Proofs.Ytdnfknphahmofaa.G
