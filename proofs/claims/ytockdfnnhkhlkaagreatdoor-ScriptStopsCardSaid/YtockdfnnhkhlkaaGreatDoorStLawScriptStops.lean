/- ScriptStops: the way over rows ends where it is left. For all numbers. -/
import Derived.Test.YtockdfnnhkhlkaaGreatDoorStZKnown15
import Derived.Test.YtockdfnnhkhlkaaGreatDoorStFrameZ
import Derived.Deep.Slices
import Derived.Deep.Fields
import Derived.ChangeSame
import Derived.Lib.SmallJoins
import Derived.Maps.OwnIn
namespace Go.Proofs.YtockdfnnhkhlkaaGreatDoor.LawScriptStops
open Go.ChangeShapes Go.WideShapes Go.ChangeAt Go.RowKit Go.Shelf Go.Proofs.YtockdfnnhkhlkaaGreatDoor.G Go.Proofs.YtockdfnnhkhlkaaGreatDoor.Frame Go.Proofs.YtockdfnnhkhlkaaGreatDoor.PNum Go.Proofs.YtockdfnnhkhlkaaGreatDoorW Go.Proofs.YtockdfnnhkhlkaaGreatDoorW.PrintWords Go.Proofs.YtockdfnnhkhlkaaGreatDoorW.PrintLast Go.Proofs.YtockdfnnhkhlkaaGreatDoorW.PrintMore
set_option linter.unusedVariables false
set_option linter.unusedSimpArgs false
attribute [local go_sem] Oper.semAt_some

set_option maxRecDepth 100000 in
set_option maxHeartbeats 8000000 in
theorem walk (n s : Nat) (hn : n ≤ 50) (hs1 : 1 ≤ s) (hs2 : s ≤ 60) (w : World) :
    Calls Tryz.prog 5 #[.int .i64 (n : Int), .int .i64 (s : Int)] w fun e w' => e = .returned (.bool true) ∧ Below w.heap.size w w' := by
  have hmk := print_make (P := Tryz.prog) 50 5 .u8 1 Tryz.underlying50 info5 (by decide) n (by omega)
  have d1 : decide ((n : Int) < 0) = false := decide_eq_false (by omega)
  have d2 : decide ((50 : Int) < (n : Int)) = false := decide_eq_false (by omega)
  have d3 : decide ((s : Int) < 1) = false := decide_eq_false (by omega)
  have d4 : decide ((60 : Int) < (s : Int)) = false := decide_eq_false (by omega)
  have hq2 : ∀ (W : World) (f : Fn) (ts bs : Array Value), (binOp .eql 56 (.func f ts bs) .nilFunc).run Tryz.prog W = .ok (.bool false) W := fun W f ts bs => run_eql_func W _ Tryz.underlying56 f ts bs
  refine (callsIn_wide (n := 6)).1 ?_
  refine callsIn_of_wp_marks Tryz.func5 rfl trivial ?_ rfl
  simp only [Tryz.ntmps5, List.size_toArray, List.length_cons, List.length_nil, Nat.reduceAdd, Nat.reduceSub, Array.replicate_succ, Array.replicate_zero, List.push_toArray, List.append_toArray, List.nil_append, List.cons_append]
  gi_wp2_with ((refine ⟨trivial, ?_⟩; gi_at_call 21; refine (srows_in _ (by decide) _ _ _ _).mono ?_; rintro e w' ⟨rfl, rfl⟩))
  obtain ⟨W0, hW0⟩ : ∃ W0, W0 = ((((((w.alloc (.cells #[.int .i64 (s : Int)] 3)).alloc (.cells #[.bool false] 4)).alloc (.cells (madeCells #[.int .u8 0] n) 5)).alloc (.cells #[.slice (some ⟨w.heap.size + 1 + 1, 0, none⟩) n n] 50)).alloc (.cells #[.func (.func 89) #[] #[]] 163)).alloc (.cells #[.int .i64 0] 3)) := ⟨_, rfl⟩
  rw [← hW0]
  have hsz : W0.heap.size = w.heap.size + 1 + 1 + 1 + 1 + 1 + 1 := by rw [hW0]; simp
  have bS : Boxed W0 (w.heap.size) 3 (.int .i64 (s : Int)) := by rw [hW0]; exact ((((((Boxed.at (by simp) _ _).alloc _).alloc _).alloc _).alloc _).alloc _)
  have bR : Boxed W0 (w.heap.size + 1) 4 (.bool false) := by rw [hW0]; exact (((((Boxed.at (by simp) _ _).alloc _).alloc _).alloc _).alloc _)
  have bRb : Boxed W0 (w.heap.size + 1 + 1 + 1) 50 (.slice (some ⟨w.heap.size + 1 + 1, 0, none⟩) n n) := by rw [hW0]; exact (((Boxed.at (by simp) _ _).alloc _).alloc _)
  have bRf : Boxed W0 (w.heap.size + 1 + 1 + 1 + 1) 163 (.func (.func 89) #[] #[]) := by rw [hW0]; exact ((Boxed.at (by simp) _ _).alloc _)
  have bK : Boxed W0 (w.heap.size + 1 + 1 + 1 + 1 + 1) 3 (.int .i64 0) := by rw [hW0]; exact (Boxed.at (by simp) _ _)
  have hZ : Kd.C (Kd.int .u8) W0 (some ⟨w.heap.size + 1 + 1, 0, none⟩) (List.replicate n (0 : Int)).length (List.replicate n 0) := by
    rw [hW0]
    have := zeros_C ((w.alloc (.cells #[.int .i64 (s : Int)] 3)).alloc (.cells #[.bool false] 4)) n (by omega)
    simp only [World.size_alloc] at this
    rw [List.length_replicate]
    exact Kd.C_alloc (Kd.C_alloc (Kd.C_alloc this _) _) _
  have hB0 : Below w.heap.size w W0 := by
    rw [hW0]
    exact ((((((Below.refl _ w).alloc (Nat.le_refl _) _).alloc (by simp) _).alloc (by simp; omega) _).alloc (by simp; omega) _).alloc (by simp; omega) _).alloc (by simp; omega) _
  have hln : (List.replicate n (0 : Int)).length = n := List.length_replicate
  clear hW0 hmk
  refine wpIn_mid 0 (fun D W' => W'.heap[D]? = some (.deferred (some [])) ∧ w.heap.size ≤ D ∧ Boxed W' (w.heap.size + 1 + 1 + 1 + 1 + 1) 3 (.int .i64 ((min n s : Nat) : Int)) ∧ Boxed W' w.heap.size 3 (.int .i64 (s : Int)) ∧ Boxed W' (w.heap.size + 1) 4 (.bool false) ∧ Below w.heap.size w W') ?_ (fun _ _ q => q) ?_
  · refine wpIn_rangeFunc_T rfl (by decide) (gf := 150) (lb := #[.pointer (some ⟨w.heap.size + 1 + 1 + 1, 0, none⟩), .pointer (some ⟨w.heap.size + 1 + 1 + 1 + 1, 0, none⟩)]) rfl trivial (enters_of Tryz.func150 (by kernel_rfl) rfl)
      (rows_stops _ (by decide) (w.heap.size + 1 + 1 + 1) (w.heap.size + 1 + 1 + 1 + 1) _ n (List.replicate n 0) (bytes_zeros n) (by rw [hln]; omega) (by rw [hln]; exact Nat.le_refl _) (fun k => k < w.heap.size + 1 + 1 + 1 + 1 + 1) (by omega) (by omega) (fun ad e _ => by cases e; show w.heap.size + 1 + 1 < _; omega) W0 (by intro k hk; omega) (by rw [hln]; exact bRb.cell) bRf.cell hZ) (rowT_from _ _) keepsS_t (keepsS_b (by intro k hk; omega)) (Below.refl _ _) (fun _ => rfl)
      (fun (pre : List RowAt) W' => (Boxed W' (w.heap.size + 1 + 1 + 1 + 1 + 1) 3 (.int .i64 (pre.length : Int)) ∧ pre.length < s) ∧ KeepsS (fun k => k < W0.heap.size ∧ k ≠ w.heap.size + 1 + 1 + 1 + 1 + 1) W0 W' ∧ Below w.heap.size w W')
      (fun c (pre : List RowAt) W' => False ∨ ((c = .exit 0 ∧ pre.length = s) ∧ Boxed W' (w.heap.size + 1 + 1 + 1 + 1 + 1) 3 (.int .i64 (pre.length : Int)) ∧ KeepsS (fun k => k < W0.heap.size ∧ k ≠ w.heap.size + 1 + 1 + 1 + 1 + 1) W0 W' ∧ Below w.heap.size w W'))
      (OwnFrom.and (OwnFrom.and (box_from _ _) (fun _ _ _ _ hs _ _ => hs)) (OwnFrom.and (keeps_from (fun k q => q.1) (fun k q => q.1)) (ownFrom_below (Nat.le_refl _) (by omega))))
      (fun c => or_from (OwnFrom.and (box_from _ _) (OwnFrom.and (keeps_from (fun k q => q.1) (fun k q => q.1)) (ownFrom_below (Nat.le_refl _) (by omega)))))
      ⟨⟨bK, hs1⟩, KeepsS.refl _ _, hB0⟩ ?a2 ?assign2 ?body2 ?done2 ?stop2
    case assign2 =>
      intro l x W K hK
      gi_wp2
      exact hK
    case body2 =>
      rintro l pre ⟨x1, xv, xl⟩ W1 W2 ⟨⟨hk1, hps⟩, hkp1, hB1⟩ hb12 ⟨hx1, hx2, hxv⟩ hlt'
      have hx1' : x1 = (pre.length : Int) := hx1
      subst hx1'
      have hxl : xl = [] := by
        rw [rowsL_zeros, List.getElem?_replicate] at hx2
        by_cases q : pre.length < n
        · rw [if_pos q] at hx2; cases hx2; rfl
        · rw [if_neg q] at hx2; cases hx2
      subst hxl
      obtain ⟨Ax, cx, hxe⟩ := Kd.R_slice hxv
      have hxe' : xv = .slice Ax 0 cx := hxe
      subst hxe'
      have hk2 : Boxed W2 (w.heap.size + 1 + 1 + 1 + 1 + 1) 3 (.int .i64 (pre.length : Int)) := (hb12.block _ hk1.lt).trans hk1
      have hkp2 : KeepsS (fun k => k < W0.heap.size ∧ k ≠ w.heap.size + 1 + 1 + 1 + 1 + 1) W0 W2 := keepsS_t hkp1 (KeepsS.of_below hb12 (fun k q => Nat.lt_of_lt_of_le q.1 hkp1.1))
      have hB2 : Below w.heap.size w W2 := hB1.trans (hb12.mono hB1.size)
      have hS2 := Boxed.keeps bS hkp2 ⟨by omega, by omega⟩
      have hR2 := Boxed.keeps bR hkp2 ⟨by omega, by omega⟩
      clear hkp1 hk1 hB1 hb12
      have c1 := hk2.cell
      have f1 := hk2.frozen
      have c2 := hS2.cell
      have c3 := hR2.cell
      have f3 := hR2.frozen
      have e9 : (((pre ++ [((pre.length : Int), Value.slice Ax 0 cx, ([] : List Int))]).length : Nat) : Int) = (pre.length : Int) + 1 := by simp
      have hb9 : Boxed (W2.setCell ⟨w.heap.size + 1 + 1 + 1 + 1 + 1, 0, none⟩ (.int .i64 ((pre.length : Int) + 1))) (w.heap.size + 1 + 1 + 1 + 1 + 1) 3 (.int .i64 (((pre ++ [((pre.length : Int), Value.slice Ax 0 cx, ([] : List Int))]).length : Nat) : Int)) := by rw [e9]; exact hk2.set _
      have hk9 : KeepsS (fun k => k < W0.heap.size ∧ k ≠ w.heap.size + 1 + 1 + 1 + 1 + 1) W0 (W2.setCell ⟨w.heap.size + 1 + 1 + 1 + 1 + 1, 0, none⟩ (.int .i64 ((pre.length : Int) + 1))) := hkp2.setCell (by simp) _
      have hB9 : Below w.heap.size w (W2.setCell ⟨w.heap.size + 1 + 1 + 1 + 1 + 1, 0, none⟩ (.int .i64 ((pre.length : Int) + 1))) := hB2.setCell (by show w.heap.size ≤ w.heap.size + 1 + 1 + 1 + 1 + 1; omega) _
      clear e9 hsz
      by_cases hlt : pre.length + 1 < s
      · have d5 : decide ((s : Int) ≤ (pre.length : Int) + 1) = false := decide_eq_false (by omega)
        gi_wp2
        exact ⟨(KeepsOthers.setCell _ _ _).from _, (KeepsS.refl _ _).setCell (by simp) _, ⟨hb9, by simp only [List.length_append, List.length_singleton]; exact hlt⟩, hk9, hB9⟩
      · have d5 : decide ((s : Int) ≤ (pre.length : Int) + 1) = true := decide_eq_true (by omega)
        gi_wp2
        exact ⟨(KeepsOthers.setCell _ _ _).from _, ⟨rfl, by simp only [List.length_append, List.length_singleton]; omega⟩, hb9, hk9, hB9⟩
    case done2 =>
      rintro D' ys W' hD' hys ⟨⟨hk', hps⟩, hkp', hB'⟩ hK'
      have hl : ys.length = n := by
        have := congrArg List.length hys
        rwa [List.length_map, placed_length, rowsL_zeros, List.length_replicate] at this
      rw [hl] at hk' hps
      exact ⟨.inl rfl, D', rfl, hK', by omega, by rw [show min n s = n by omega]; exact hk', Boxed.keeps bS hkp' ⟨by omega, by omega⟩, Boxed.keeps bR hkp' ⟨by omega, by omega⟩, hB'⟩
    case stop2 =>
      rintro D' c pre W' hD' ⟨ns, hns, hpre⟩ (h0 | ⟨⟨rfl, hps⟩, hk', hkp', hB'⟩) hK'
      · exact h0.elim
      · have hl : pre.length ≤ n := by
          obtain ⟨ns', hns'⟩ := hns
          rw [rowsL_zeros] at hns'
          have h1 := congrArg List.length hns'
          have h2 := congrArg List.length hpre
          rw [List.length_map, placed_length] at h2
          simp at h1; omega
        rw [hps] at hk'
        exact wpIn_exit ⟨.inr rfl, D', rfl, hK', by omega, by rw [show min n s = s by omega]; exact hk', Boxed.keeps bS hkp' ⟨by omega, by omega⟩, Boxed.keeps bR hkp' ⟨by omega, by omega⟩, hB'⟩
  · rintro D' W' ⟨hK2, hDD, hk', hS', hR', hB'⟩
    clear hZ bS bR bRb bRf bK hB0
    have c2 := hk'.cell
    have c3 := hS'.cell
    have hend : ∀ w1, Below W'.heap.size W' w1 → w1.cell? ⟨w.heap.size + 1, 0, none⟩ = some (.bool false) ∧ w1.frozen? ⟨w.heap.size + 1, 0, none⟩ = false := fun w1 hb1 => by
      have hR1 : Boxed w1 (w.heap.size + 1) 4 (.bool false) := (hb1.block _ hR'.lt).trans hR'
      exact ⟨hR1.cell, hR1.frozen⟩
    have hfin : ∀ w1, Below W'.heap.size W' w1 → ∃ g1 : (w1.setCell ⟨w.heap.size + 1, 0, none⟩ (.bool true)).heap[D']? = some (.deferred (some [])), (((w1.setCell ⟨w.heap.size + 1, 0, none⟩ (.bool true)).putObj D' (.deferred none)).cell? ⟨w.heap.size + 1, 0, none⟩ = some (.bool true)) ∧ Below w.heap.size w ((w1.setCell ⟨w.heap.size + 1, 0, none⟩ (.bool true)).putObj D' (.deferred none)) := fun w1 hb1 => by
      have hR1 : Boxed w1 (w.heap.size + 1) 4 (.bool false) := (hb1.block _ hR'.lt).trans hR'
      have g1 := (KeepsOthers.setCell w1 ⟨w.heap.size + 1, 0, none⟩ (.bool true)).same D' _ ((hb1.block _ (Array.getElem?_eq_some_iff.1 hK2).1).trans hK2) rfl
      exact ⟨g1, (boxed_putObj (hR1.set (.bool true)) (.deferred none) g1 rfl).cell, ((hB'.trans (hb1.mono hB'.size)).setCell (p := ⟨w.heap.size + 1, 0, none⟩) (Nat.le_succ _) _).trans (belowK_b (w := w) (Nat.le_refl _) _ D' _ _ (by omega) g1 rfl rfl)⟩
    obtain ⟨m, hm⟩ : ∃ m, m = min n s := ⟨_, rfl⟩
    rw [← hm] at c2
    by_cases hsn : (s : Int) < (n : Int)
    · have hms : m = s := by omega
      clear hm
      subst hms
      gi_wp2_with (refine ⟨trivial, ?_⟩; gi_at_call 20; refine (callsIn_wide.2 (known15_calls _)).mono ?_; rintro e w1 ⟨rfl, hb1⟩; obtain ⟨c4, f4⟩ := hend w1 hb1)
      obtain ⟨g1, r1', hbf⟩ := hfin w1 hb1
      refine ⟨by simp, .inl ⟨_, _, rfl, run_takeDeferred g1, ?_⟩⟩
      refine ⟨_, ?_, rfl, hbf⟩
      simp [results, Tryz.f5, go_sem, r1']
    · have hms : m = n := by omega
      clear hm
      subst hms
      gi_wp2_with (refine ⟨trivial, ?_⟩; gi_at_call 20; refine (callsIn_wide.2 (known15_calls _)).mono ?_; rintro e w1 ⟨rfl, hb1⟩; obtain ⟨c4, f4⟩ := hend w1 hb1)
      obtain ⟨g1, r1', hbf⟩ := hfin w1 hb1
      refine ⟨by simp, .inl ⟨_, _, rfl, run_takeDeferred g1, ?_⟩⟩
      refine ⟨_, ?_, rfl, hbf⟩
      simp [results, Tryz.f5, go_sem, r1']
set_option maxRecDepth 100000 in
set_option maxHeartbeats 2000000 in
theorem walk0 (n s : Int) (h : n < 0 ∨ 50 < n ∨ s < 1 ∨ 60 < s) (w : World) :
    Calls Tryz.prog 5 #[.int .i64 n, .int .i64 s] w fun e w' => e = .returned (.bool true) ∧ Below w.heap.size w w' := by
  have d : (decide (n < 0) = true) ∨ (decide (n < 0) = false ∧ decide (50 < n) = true) ∨ (decide (n < 0) = false ∧ decide (50 < n) = false ∧ decide (s < 1) = true) ∨ (decide (n < 0) = false ∧ decide (50 < n) = false ∧ decide (s < 1) = false ∧ decide (60 < s) = true) := by
    simp only [decide_eq_true_eq, decide_eq_false_iff_not]; omega
  refine (callsIn_wide (n := 6)).1 ?_
  refine callsIn_of_wp_marks Tryz.func5 rfl trivial ?_ rfl
  simp only [Tryz.ntmps5, List.size_toArray, List.length_cons, List.length_nil, Nat.reduceAdd, Nat.reduceSub, Array.replicate_succ, Array.replicate_zero, List.push_toArray, List.append_toArray, List.nil_append, List.cons_append]
  clear h
  rcases d with d1 | ⟨d1, d2⟩ | ⟨d1, d2, d3⟩ | ⟨d1, d2, d3, d4⟩
  all_goals gi_wp2
  all_goals (refine ⟨_, ?_, rfl, ((Below.refl _ w).alloc (Nat.le_refl _) _).alloc (by simp) _⟩; simp [results, Tryz.f5, go_sem, World.cell?_alloc_new])

set_option maxRecDepth 100000 in
theorem walks : WalksD 5 Tryz.f5 := by
  intro H enc W base args ds ps hval hA _ _ _
  rw [Tryz.params5] at hA hval
  obtain ⟨v0, v1, d0, d1, p0, p1, rfl, rfl, rfl, h0, h1⟩ := trodAll_two hA
  obtain ⟨a0, rfl, rfl, rfl, _⟩ := open_int Tryz.underlying3 (hval 0 3 v0 rfl rfl) h0
  obtain ⟨a1, rfl, rfl, rfl, _⟩ := open_int Tryz.underlying3 (hval 1 3 v1 rfl rfl) h1
  by_cases h : a0 < 0 ∨ 50 < a0 ∨ a1 < 1 ∨ 60 < a1
  · exact walk0 a0 a1 h W
  · obtain ⟨n, rfl⟩ := Int.eq_ofNat_of_zero_le (by omega : 0 ≤ a0)
    obtain ⟨s, rfl⟩ := Int.eq_ofNat_of_zero_le (by omega : 0 ≤ a1)
    exact walk n s (by omega) (by omega) (by omega) W
set_option maxRecDepth 100000 in
theorem rowed (os : Os) (started : os.Started) (H : Type) (enc : TypeId × Value → H) :
    ReturnsInHanded {} Tryz.checked os 5 .any (fun w args => (Rows.scriptStopsSpec.pre enc Tryz.prog Tryz.f5 [] false w args ∧ laidMetH Tryz.prog laidL w) ∧ sizedMet enc Tryz.prog Tryz.f5 (OpenSpec.ofChange Rows.scriptStopsSpec) false w args) (Rows.scriptStopsSpec.post enc Tryz.prog Tryz.f5 false true false false) :=
  liftedD (s := Rows.scriptStopsSpec) Tryz.func5 (by kernel_rfl) (by kernel_rfl) (by kernel_rfl) (by kernel_rfl) rfl
    (fun H ds h => by
      have h' : ds.length = 2 := h
      match ds, h' with
      | [d1, d2], _ => rfl)
    os started H enc
    (ChangeSpec.witness_shaped (enc := enc) (C := Tryz.checked) (os := os) (X := fun w _ => laidMetH Tryz.prog laidL w) false (World.laidAll Tryz.prog os laidL) #[.int .i64 0, .int .i64 0] 8 (World.laidAll_os _ _ _)
      (World.shaped_of_ZipB (by kernel_rfl) (by kernel_rfl)) (by kernel_rfl) (by kernel_rfl) (by kernel_rfl)
      (by rw [MakeChecks.laidMetH_plain _ _ _ (by kernel_rfl)]; exact laidMet_laidAll _ (by kernel_rfl) (by kernel_rfl))) walks
set_option maxRecDepth 100000 in
theorem fact0 : (Rows.scriptStopsRow.inPlace == Tryz.prog.inPlace 5) = true := by kernel_rfl
set_option maxRecDepth 100000 in
theorem fact1 : (Rows.scriptStopsRow.unfollowed == Tryz.prog.unfollowed 5) = true := by kernel_rfl
set_option maxRecDepth 100000 in
theorem fact2 : (Rows.scriptStopsRow.recurses == Tryz.prog.recurses 5) = true := by kernel_rfl
set_option maxRecDepth 100000 in
theorem fact3 : (Rows.scriptStopsRow.named == Tryz.prog.varsNamed 5) = true := by kernel_rfl
set_option maxRecDepth 100000 in
theorem closed : joinedFacts Tryz.prog 5 Tryz.f5 Rows.scriptStopsSpec Rows.scriptStopsRow = true := by
  unfold joinedFacts
  rw [fact0, fact1, fact2, fact3]
  kernel_rfl
theorem over : Rows.scriptStopsRow.holds Tryz.pinned (OpenSpec.ofChange Rows.scriptStopsSpec) :=
  OpenClaim.holds_of_wide 5 Tryz.f5 rfl rfl rfl rfl rfl rfl rfl ⟨rfl, rfl, rfl, rfl, rfl⟩ rfl rfl rfl rfl rfl (by kernel_rfl) Tryz.func5 closed
    (of_decide_eq_true (by kernel_rfl)) (by unfold Func.isWrapper; first | (rw [if_pos (by decide +kernel)]; kernel_rfl) | (rw [if_neg (by decide +kernel)]; exact ⟨rfl, rfl⟩))
    (fun os started H enc _ => rowed os started H enc)
theorem card : Rows.ScriptStopsCardSaid :=
  Claim7.holds_tied_plain_at .later [] [.listed, .data] true (true, "ca017903dae1be76a6120c8c46aca48e3904b56abb20938806a391cecf5c85d9") false over (fun _ h => by cases h) (by kernel_rfl) (fun _ h => by cases h) scriptStops_row_tie rfl ⟨rfl, rfl⟩ (by kernel_rfl) rfl
    (fun f fn hf hfn => by
      obtain rfl : f = 5 := Option.some.inj ((show Tryz.prog.funcNamed "althing/althinglaw15.ScriptStops" = some 5 by kernel_rfl).symm.trans hf) |>.symm
      obtain rfl : fn = Tryz.f5 := (Option.some.inj (Tryz.func5.symm.trans hfn)).symm
      exact ⟨by kernel_rfl, fun j t ht => by
        have hm : t ∈ Tryz.f5.params.toList := by simpa using Array.mem_of_getElem? ht
        have hall : (Tryz.f5.params.toList.all fun u => !Tryz.prog.wantsStandIn u) = true := by kernel_rfl
        exact (show Tryz.prog.wantsStandIn t = false by simpa using List.all_eq_true.1 hall t hm)⟩)
    (by kernel_rfl)
end Go.Proofs.YtockdfnnhkhlkaaGreatDoor.LawScriptStops
namespace Go.Proofs.YtockdfnnhkhlkaaGreatDoor
/-- The row's card, under a short name, for the claim. -/
theorem scriptStops_holds : Rows.ScriptStopsCardSaid := LawScriptStops.card
end Go.Proofs.YtockdfnnhkhlkaaGreatDoor
