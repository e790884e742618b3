/- refer.Service where there are no referenda: nothing happens. -/
import Derived.Test.YtockdfnnhkhlkaaGreatCnZGrid
import Derived.Test.YtockdfnnhkhlkaaGreatCnZLoad
import Derived.Deep.RegionHeld3
import Derived.Sort.CutIn
import Derived.Test.YtockdfnnhkhlkaaGreatCnGx0

namespace Go.Proofs.YtockdfnnhkhlkaaGreat.G
open Go.RowKit Go.Shelf Go.Proofs.YtockdfnnhkhlkaaGreatW Go.Proofs.YtockdfnnhkhlkaaGreatW.PrintWords Go.Proofs.YtockdfnnhkhlkaaGreatW.PrintLast Go.Proofs.YtockdfnnhkhlkaaGreatW.PrintMore
set_option linter.unusedVariables false
set_option linter.unusedSimpArgs false
attribute [local go_sem] Oper.semAt_some

set_option maxRecDepth 100000 in
set_option maxHeartbeats 2000000 in
theorem ins_calls (p : Option Addr) (w : World) : Calls Tryz.prog 116 #[.slice none 0 0, .int .i64 0, .int .i64 0, .func (.func 87) #[] #[.pointer p]] w fun e w' => (∃ v, e = .returned v) ∧ w' = w := by
  go_enter Tryz.func116, Tryz.ntmps116
  go_upto_region 1 with (fail)
  go_loopw [8] (fun i wr => i = .int .i64 1 ∧ wr = w) (fun _ _ => 0)
  case atStart => exact ⟨rfl, rfl⟩
  case round =>
    obtain ⟨rfl, rfl⟩ := hrel
    go_wp2
    refine bodyPost_end (v := .tuple #[]) (results_none rfl _ _ _) rfl ?_
    exact ⟨⟨_, rfl⟩, rfl⟩
set_option maxRecDepth 100000 in
set_option maxHeartbeats 2000000 in
theorem stable_calls (p : Option Addr) (w : World) : Calls Tryz.prog 107 #[.slice none 0 0, .int .i64 0, .func (.func 87) #[] #[.pointer p]] w fun e w' => (∃ v, e = .returned v) ∧ w' = w := by
  go_enter Tryz.func107, Tryz.ntmps107
  go_upto_region 2 with (fail)
  go_loopw [7, 8] (fun i j wr => i = .int .i64 0 ∧ j = .int .i64 20 ∧ wr = w) (fun _ _ _ => 0)
  case atStart => exact ⟨rfl, rfl, rfl⟩
  case round =>
    obtain ⟨rfl, rfl, hw_⟩ := hrel
    subst hw_
    go_upto_region 7 with (go_at_call 116; go_loud ((with_reducible refine (ins_calls p _).mono ?_); rintro e w1 ⟨⟨v, rfl⟩, rfl⟩))
    go_loopw [6] (fun i wz => i = .int .i64 20 ∧ wz = w1) (fun _ _ => 0)
    case atStart => exact ⟨rfl, rfl⟩
    case round =>
      obtain ⟨rfl, rfl⟩ := hrel
      go_wp2
      refine bodyPost_end (v := .tuple #[]) (results_none rfl _ _ _) rfl ?_
      exact ⟨⟨_, rfl⟩, rfl⟩
set_option maxRecDepth 100000 in
set_option maxHeartbeats 2000000 in
theorem sort_calls (p : Option Addr) (w : World) : Calls Tryz.prog 86 #[.slice none 0 0, .func (.func 87) #[] #[.pointer p]] w fun e w' => (∃ v, e = .returned v) ∧ w' = w := by
  go_enter Tryz.func86, Tryz.ntmps86
  go_wp2_with (go_at_call 107; go_loud ((with_reducible refine (stable_calls p _).mono ?_); rintro e w1 ⟨⟨v, rfl⟩, rfl⟩))
  refine bodyPost_end (v := .tuple #[]) (results_none rfl _ _ _) rfl ?_
  exact ⟨⟨_, rfl⟩, rfl⟩

theorem new_cell {W : World} {B : Nat} (hB : W.heap.size = B) (cs : Array Value) (t : TypeId) (i : Nat) : (W.alloc (.cells cs t)).cell? ⟨B, i, none⟩ = cs[i]? := by
  subst hB
  exact blk_cell (blk_new W _) i
/-- A Refer without referenda: its block, its grid's. -/
structure NoRefs (w : World) (r g : Nat) : Prop where
  at1 : w.cell? ⟨r, 1, none⟩ = some (.pointer (some ⟨g, 0, none⟩))
  none : w.cell? ⟨g, 0, none⟩ = some (.slice none 0 0)
theorem NoRefs.below {w w' : World} {r g : Nat} (h : NoRefs w r g) (hb : Below w.heap.size w w') : NoRefs w' r g :=
  ⟨(World.cell?_of_block (hb.block _ (World.block_lt_of_cell? w _ h.at1))).trans h.at1, (World.cell?_of_block (hb.block _ (World.block_lt_of_cell? w _ h.none))).trans h.none⟩

set_option maxRecDepth 100000 in
set_option maxHeartbeats 4000000 in
theorem waits_calls (r g : Nat) (v : Option Addr) (of now : Int) (w : World) (hR : NoRefs w r g) :
    Calls Tryz.prog 66 #[.pointer (some ⟨r, 0, none⟩), .pointer v, .int .i64 of, .int .i64 now] w fun e w' => e = .returned (.tuple #[.slice none 0 0, .int .i64 0]) ∧ Below w.heap.size w w' := by
  refine (callsIn_wide (n := 20)).1 ?_
  have HR := Aside0.mk hR
  clear hR
  refine callsIn_of_wp_marks Tryz.func66 rfl trivial ?_ rfl
  simp only [Tryz.ntmps66, List.size_toArray, List.length_cons, List.length_nil, Nat.reduceAdd, Nat.reduceSub, Array.replicate_succ, Array.replicate_zero, List.push_toArray, List.append_toArray, List.nil_append, List.cons_append]
  gi_upto_region 3 with (fail)
  have hb_ : Below w.heap.size w ((((((w.alloc (.cells #[.pointer (some ⟨r, 0, none⟩)] 37)).alloc (.cells #[.pointer v] 40)).alloc (.cells #[.int .i64 of] 3)).alloc (.cells #[.int .i64 now] 3)).alloc (.cells #[.slice none 0 0] 22)).alloc (.cells #[.int .i64 0] 3)) := below_alloc (below_alloc (below_alloc (below_alloc (below_alloc (below_alloc (Below.refl _ _) _) _) _) _) _) _
  obtain ⟨W0, hW0⟩ : ∃ W0, W0 = ((((((w.alloc (.cells #[.pointer (some ⟨r, 0, none⟩)] 37)).alloc (.cells #[.pointer v] 40)).alloc (.cells #[.int .i64 of] 3)).alloc (.cells #[.int .i64 now] 3)).alloc (.cells #[.slice none 0 0] 22)).alloc (.cells #[.int .i64 0] 3)) := ⟨_, rfl⟩
  rw [← hW0] at hb_ ⊢
  have b4 : W0.cell? ⟨w.heap.size, 0, none⟩ = some (.pointer (some ⟨r, 0, none⟩)) := by
    rw [hW0]; exact cell_alloc (cell_alloc (cell_alloc (cell_alloc (cell_alloc (new_cell rfl _ _ 0) _) _) _) _) _
  have b10 : W0.cell? ⟨w.heap.size + 1 + 1 + 1 + 1, 0, none⟩ = some (.slice none 0 0) := by
    rw [hW0]; exact cell_alloc (new_cell (by simp) _ _ 0) _
  have b11 : W0.cell? ⟨w.heap.size + 1 + 1 + 1 + 1 + 1, 0, none⟩ = some (.int .i64 0) := by
    rw [hW0]; exact new_cell (by simp) _ _ 0
  clear hW0
  have HB0 := Aside0.mk hb_
  clear hb_
  gi_wp2_with (refine ⟨trivial, ?_⟩; gi_at_call 51; refine (all_in _ (by decide) r g _ (HR.out.below HB0.out).at1 (HR.out.below HB0.out).none).mono ?_; rintro e w1 ⟨lb, rfl, hnone, hb1⟩)
  refine wpIn_range_none (n := 20) (by decide) (gf := 108) (lb := lb) rfl (enters_of Tryz.func108 (by kernel_rfl) rfl) (hnone _ (by decide)) ?_
  intro D W2 hD hB hK
  have hb2 : Below W0.heap.size W0 W2 := hb1.trans (hB.mono hb1.size)
  have c10 := (World.cell?_of_block (hb2.block _ (World.block_lt_of_cell? _ _ b10))).trans b10
  have c11 := (World.cell?_of_block (hb2.block _ (World.block_lt_of_cell? _ _ b11))).trans b11
  have HB2 : Aside0 (Below w.heap.size w W2) := ⟨HB0.out.trans (hb2.mono HB0.out.size)⟩
  have HD : Aside0 (w.heap.size ≤ D) := ⟨Nat.le_trans HB0.out.size (Nat.le_trans hb1.size hD)⟩
  clear b4 b10 b11 hb1 hB hb2 hnone hD
  gi_upto_region 12 with (refine ⟨trivial, ?_⟩; gi_at_call 86; refine (callsIn_wide.2 (sort_calls _ _)).mono ?_; rintro e w3 ⟨⟨v, rfl⟩, rfl⟩)
  gi_region
  gi_wp2
  refine ⟨by simp, .inl ⟨_, _, rfl, run_takeDeferred (show w3.drew.heap[D]? = _ from hK), ?_⟩⟩
  refine ⟨_, results_tmp2 rfl _ _ _, rfl, ?_⟩
  exact (below_drew HB2.out).trans (belowK_b (w := w) (Nat.le_refl _) w3.drew D _ _ HD.out hK rfl rfl)

/-- A Refer with the laws' two tracks, without referenda. -/
structure ReferAt (w : World) (r g : Nat) (T : Nat) (cap : Nat) : Prop where
  refs : NoRefs w r g
  at0 : w.cell? ⟨r, 0, none⟩ = some (.slice (some ⟨T, 0, none⟩) 2 cap)
  m0 : w.cell? ⟨T, 0, none⟩ = some (.int .i64 2)
  m1 : w.cell? ⟨T, 18, none⟩ = some (.int .i64 1)
theorem cell_below {w w' : World} {p : Addr} {v : Value} (h : w.cell? p = some v) (hb : Below w.heap.size w w') : w'.cell? p = some v := (World.cell?_of_block (hb.block _ (World.block_lt_of_cell? w _ h))).trans h
theorem ReferAt.below {w w' : World} {r g : Nat} {T : Nat} {cap : Nat} (h : ReferAt w r g T cap) (hb : Below w.heap.size w w') : ReferAt w' r g T cap :=
  ⟨h.refs.below hb, cell_below h.at0 hb, cell_below h.m0 hb, cell_below h.m1 hb⟩

set_option maxRecDepth 100000 in
set_option maxHeartbeats 4000000 in
theorem begins_calls (r g : Nat) (T : Nat) (cap : Nat) (v : Option Addr) (of now : Int) (w : World) (hR : ReferAt w r g T cap) (hof : of = 0 ∨ of = 1) :
    Calls Tryz.prog 50 #[.pointer (some ⟨r, 0, none⟩), .pointer v, .int .i64 of, .int .i64 now] w fun e w' => (∃ v, e = .returned v) ∧ Below w.heap.size w w' := by
  have HR := Aside0.mk hR
  clear hR
  rcases hof with rfl | rfl
  all_goals (
    go_enter Tryz.func50, Tryz.ntmps50
    go_upto_region 1 with (go_at_call 66; go_loud ((with_reducible refine (waits_calls r g v _ now _ HR.out.refs).mono ?_); rintro e w1 ⟨rfl, hb1⟩; have HB1 := Aside0.mk hb1; clear hb1))
    have c0 := (HR.out.below HB1.out).at0
    have c1 := (HR.out.below HB1.out).m0
    have c2 := (HR.out.below HB1.out).m1
    go_upto_region 2 with (fail)
    go_loopw [39] (fun i wr => i = .int .i64 0 ∧ wr = w1) (fun _ _ => 0)
    case atStart => exact ⟨rfl, rfl⟩
    case round =>
      obtain ⟨rfl, hw_⟩ := hrel
      subst hw_
      go_wp2
      refine bodyPost_end (v := .tuple #[]) (results_none rfl _ _ _) rfl ?_
      exact ⟨⟨_, rfl⟩, HB1.out⟩)

set_option maxRecDepth 100000 in
set_option maxHeartbeats 4000000 in
theorem service_calls (r g l v : Nat) (T : Nat) (cap : Nat) (now : Int) (w : World) (hR : ReferAt w r g T cap) :
    Calls Tryz.prog 36 #[.pointer (some ⟨r, 0, none⟩), .pointer (some ⟨l, 0, none⟩), .pointer (some ⟨v, 0, none⟩), .int .i64 now] w fun e w' => e = .returned (.slice none 0 0) ∧ Below w.heap.size w w' := by
  refine (callsIn_wide (n := 20)).1 ?_
  have HR := Aside0.mk hR
  clear hR
  refine callsIn_of_wp_marks Tryz.func36 rfl trivial ?_ rfl
  simp only [Tryz.ntmps36, List.size_toArray, List.length_cons, List.length_nil, Nat.reduceAdd, Nat.reduceSub, Array.replicate_succ, Array.replicate_zero, List.push_toArray, List.append_toArray, List.nil_append, List.cons_append]
  gi_upto_region 1 with (fail)
  obtain ⟨W0, hW0⟩ : ∃ W0, W0 = ((((w.alloc (.cells #[.pointer (some ⟨r, 0, none⟩)] 37)).alloc (.cells #[.pointer (some ⟨l, 0, none⟩)] 34)).alloc (.cells #[.pointer (some ⟨v, 0, none⟩)] 40)).alloc (.cells #[.int .i64 now] 3)) := ⟨_, rfl⟩
  have hb_ : Below w.heap.size w W0 := by rw [hW0]; exact below_alloc (below_alloc (below_alloc (below_alloc (Below.refl _ _) _) _) _) _
  rw [← hW0]
  have b4 : W0.cell? ⟨w.heap.size, 0, none⟩ = some (.pointer (some ⟨r, 0, none⟩)) := by rw [hW0]; exact cell_alloc (cell_alloc (cell_alloc (new_cell rfl _ _ 0) _) _) _
  have b5 : W0.cell? ⟨w.heap.size + 1, 0, none⟩ = some (.pointer (some ⟨l, 0, none⟩)) := by rw [hW0]; exact cell_alloc (cell_alloc (new_cell (by simp) _ _ 0) _) _
  have b6 : W0.cell? ⟨w.heap.size + 1 + 1, 0, none⟩ = some (.pointer (some ⟨v, 0, none⟩)) := by rw [hW0]; exact cell_alloc (new_cell (by simp) _ _ 0) _
  have b7 : W0.cell? ⟨w.heap.size + 1 + 1 + 1, 0, none⟩ = some (.int .i64 now) := by rw [hW0]; exact new_cell (by simp) _ _ 0
  clear hW0
  have HB0 := Aside0.mk hb_
  have HR0 := Aside0.mk (HR.out.below hb_)
  have HC : Aside0 (∀ W, Below W0.heap.size W0 W → W.cell? ⟨w.heap.size, 0, none⟩ = some (.pointer (some ⟨r, 0, none⟩)) ∧ W.cell? ⟨w.heap.size + 1 + 1, 0, none⟩ = some (.pointer (some ⟨v, 0, none⟩)) ∧ W.cell? ⟨w.heap.size + 1 + 1 + 1, 0, none⟩ = some (.int .i64 now)) := ⟨fun W h => ⟨cell_below b4 h, cell_below b6 h, cell_below b7 h⟩⟩
  have c0 := HR0.out.at0
  clear hb_
  gi_upto_region 4 with (fail)
  clear b4 b5 b6 b7 c0
  gi_loopw [30] (fun i wr => ∃ x : Int, i = .int .i64 x ∧ (0 ≤ x ∧ x ≤ 2) ∧ Aside0 (Below W0.heap.size W0 wr)) (fun i _ => 2 - (intOf i).toNat)
  case atStart => exact ⟨0, rfl, ⟨by omega, by omega⟩, ⟨Below.refl _ _⟩⟩
  case round =>
    obtain ⟨x, rfl, ⟨hx0, hx1⟩, HBr⟩ := hrel
    obtain ⟨b4, b6, b7⟩ := HC.out _ HBr.out
    by_cases hx : x < 2
    · have e1 : Aside0 (IntKind.i64.wrap (x + 1) = x + 1) := ⟨IntWalk.i64_in _ (by omega)⟩
      have HX : Aside0 (x = 0 ∨ x = 1) := ⟨by omega⟩
      gi_wp2_with (refine ⟨trivial, ?_⟩; gi_at_call 50; refine (callsIn_wide.2 (begins_calls r g T cap _ x now _ (HR0.out.below HBr.out) HX.out)).mono ?_; rintro e w1 ⟨⟨v, rfl⟩, hb1⟩)
      exact ⟨⟨x + 1, rfl, ⟨by omega, by omega⟩, ⟨HBr.out.trans (hb1.mono HBr.out.size)⟩⟩, by simp [intOf]; omega⟩
    · gi_upto_region 9 with (fail)
      have c4 := cell_alloc b4 (.cells #[.slice none 0 0] 69)
      have HB1 : Aside0 (Below W0.heap.size W0 (wr.alloc (.cells #[.slice none 0 0] 69))) := ⟨below_alloc HBr.out _⟩
      have b10 : (wr.alloc (.cells #[.slice none 0 0] 69)).cell? ⟨wr.heap.size, 0, none⟩ = some (.slice none 0 0) := new_cell rfl _ _ 0
      clear b4 b6 b7 hx0 hx1 hx HBr
      generalize wr.alloc (.cells #[.slice none 0 0] 69) = W1 at c4 HB1 b10 ⊢
      gi_wp2_with (refine ⟨trivial, ?_⟩; gi_at_call 51; refine (all_in _ (by decide) r g _ (HR0.out.below HB1.out).refs.at1 (HR0.out.below HB1.out).refs.none).mono ?_; rintro e w1 ⟨lb, rfl, hnone, hb1⟩)
      refine wpIn_range_none (n := 20) (by decide) (gf := 108) (lb := lb) rfl (enters_of Tryz.func108 (by kernel_rfl) rfl) (hnone _ (by decide)) ?_
      intro D W2 hD hB hK
      have hb2 : Below W1.heap.size W1 W2 := hb1.trans (hB.mono hb1.size)
      have c10 := cell_below b10 hb2
      have HB2 : Aside0 (Below w.heap.size w W2) := ⟨HB0.out.trans ((HB1.out.trans (hb2.mono HB1.out.size)).mono HB0.out.size)⟩
      have HD : Aside0 (w.heap.size ≤ D) := ⟨Nat.le_trans HB0.out.size (Nat.le_trans HB1.out.size (Nat.le_trans hb1.size hD))⟩
      clear c4 b10 hb1 hB hb2 hnone hD
      gi_wp2
      refine ⟨by simp, .inl ⟨_, _, rfl, run_takeDeferred hK, ?_⟩⟩
      refine ⟨_, results_tmp rfl _ _ _, rfl, ?_⟩
      exact HB2.out.trans (belowK_b (w := w) (Nat.le_refl _) W2 D _ _ HD.out hK rfl rfl)
end Go.Proofs.YtockdfnnhkhlkaaGreat.G

-- Laid by this session's own program gprint.py over the kit's print (given functions are proved by hand).
namespace Go.Proofs.YtockdfnnhkhlkaaGreat.G
open Go.RowKit Go.Proofs.YtockdfnnhkhlkaaGreatW.PrintWords Go.Proofs.YtockdfnnhkhlkaaGreatW.PrintLast Go.Proofs.YtockdfnnhkhlkaaGreatW.PrintMore
attribute [local go_sem] max2_int min2_int max_two min_two max_three min_three max_four min_four   -- for this text's walks alone
set_option linter.unusedVariables false
set_option linter.unusedSimpArgs false

/-! ### per_At: function 91 -/

/-! ### track_Passing: function 68 -/

-- NOT PRINTED: function 52 (refer_Refer_decides)

-- NOT PRINTED: function 36 (refer_Refer_Service)

-- NOT PRINTED: function 18 (chain_Chain_Block)

-- NOT PRINTED: function 19 (chain_Chain_Ledger)

-- NOT PRINTED: function 20 (ledger_Ledger_Free)

-- NOT PRINTED: function 7 (althinglaw14_known)

-- NOT PRINTED: function 3 (althinglaw14_ChainNew)

/-! ### track_isIn: function 38 -/
def track_isIn.f (a0 : Int) (a1 : Int) (a2 : Int) : Option (Bool) := if a0 ≥ a1 then (some (decide (a0 ≤ a2))) else (some false)
set_option maxHeartbeats 8000000 in
set_option maxRecDepth 100000 in
theorem track_isIn.calls (a0 : Int) (a1 : Int) (a2 : Int) (r : Bool) (w : World) (h : track_isIn.f a0 a1 a2 = some r) :
    Calls Tryz.prog 38 #[.int .i64 a0, .int .i64 a1, .int .i64 a2] w fun e w' => e = .returned (.bool r) ∧ Drawn0 w w' := by
  have H : (if a0 ≥ a1 then (some (decide (a0 ≤ a2))) else (some false)) = some r := h
  clear h
  by_cases c4 : a0 ≥ a1
  · rw [if_pos c4] at H
    have c4b0 : decide (a1 ≤ a0) = true := decide_eq_true c4
    clear c4
    obtain rfl := Option.some.inj H
    go_enter Tryz.func38, Tryz.ntmps38
    go_wp2
    go_ret
    exact ⟨by first | rfl | (simp; done) | (simp [*]; done), by repeat (first | exact Drawn0.refl _ | apply Drawn0.step)⟩
  · rw [if_neg c4] at H
    have c4b0 : decide (a1 ≤ a0) = false := decide_eq_false c4
    clear c4
    obtain rfl := Option.some.inj H
    go_enter Tryz.func38, Tryz.ntmps38
    go_wp2
    go_ret
    exact ⟨by first | rfl | (simp; done) | (simp [*]; done), by repeat (first | exact Drawn0.refl _ | apply Drawn0.step)⟩

/-! ### per_isIn: function 56 -/
def per_isIn.f (a0 : Int) (a1 : Int) (a2 : Int) : Option (Bool) := if a0 ≥ a1 then (some (decide (a0 ≤ a2))) else (some false)
set_option maxHeartbeats 8000000 in
set_option maxRecDepth 100000 in
theorem per_isIn.calls (a0 : Int) (a1 : Int) (a2 : Int) (r : Bool) (w : World) (h : per_isIn.f a0 a1 a2 = some r) :
    Calls Tryz.prog 56 #[.int .i64 a0, .int .i64 a1, .int .i64 a2] w fun e w' => e = .returned (.bool r) ∧ Drawn0 w w' := by
  have H : (if a0 ≥ a1 then (some (decide (a0 ≤ a2))) else (some false)) = some r := h
  clear h
  by_cases c4 : a0 ≥ a1
  · rw [if_pos c4] at H
    have c4b0 : decide (a1 ≤ a0) = true := decide_eq_true c4
    clear c4
    obtain rfl := Option.some.inj H
    go_enter Tryz.func56, Tryz.ntmps56
    go_wp2
    go_ret
    exact ⟨by first | rfl | (simp; done) | (simp [*]; done), by repeat (first | exact Drawn0.refl _ | apply Drawn0.step)⟩
  · rw [if_neg c4] at H
    have c4b0 : decide (a1 ≤ a0) = false := decide_eq_false c4
    clear c4
    obtain rfl := Option.some.inj H
    go_enter Tryz.func56, Tryz.ntmps56
    go_wp2
    go_ret
    exact ⟨by first | rfl | (simp; done) | (simp [*]; done), by repeat (first | exact Drawn0.refl _ | apply Drawn0.step)⟩

end Go.Proofs.YtockdfnnhkhlkaaGreat.G

-- Laid by this session's own program gprint.py over the kit's print (given functions are proved by hand).
namespace Go.Proofs.YtockdfnnhkhlkaaGreat.G
open Go.RowKit Go.Proofs.YtockdfnnhkhlkaaGreatW.PrintWords Go.Proofs.YtockdfnnhkhlkaaGreatW.PrintLast Go.Proofs.YtockdfnnhkhlkaaGreatW.PrintMore
attribute [local go_sem] max2_int min2_int max_two min_two max_three min_three max_four min_four   -- for this text's walks alone
set_option linter.unusedVariables false
set_option linter.unusedSimpArgs false

/-! ### per_Is: function 39 -/
def per_Is.j0 : Nat → Bool → Int → Int → Int → Int → Int → Option (Bool)
  | 0, _, _, _, _, _, _ => none
  | k + 1, x3, x162000, x162001, x162002, x162003, x162004 => if x162000 = 1 then (if x3 = true then (some (x162004 == 0)) else (some false)) else (if x162000 = 2 then (if x3 = true then ((per_isIn.f x162004 1 1000000000).bind fun t165 => (some t165)) else (some false)) else (if x162000 = 3 then ((per_isIn.f x162001 0 1000000000).bind fun t166 => (if t166 = true then ((per_isIn.f x162003 0 1000000000).bind fun t167 => (if t167 = true then ((per_isIn.f x162002 1 1000000000).bind fun t168 => (if t168 = true then (some (x162004 == 0)) else (some false))) else (some false))) else (some false))) else (some false)))
def per_Is.f (k : Nat) (a0_0 : Int) (a0_1 : Int) (a0_2 : Int) (a0_3 : Int) (a0_4 : Int) : Option (Bool) := (per_isIn.f a0_1 0 1000000000).bind fun t162 => (if t162 = true then ((per_isIn.f a0_2 0 a0_1).bind fun t163 => (if t163 = true then ((per_isIn.f a0_3 1 1000000000).bind fun t164 => (per_Is.j0 k t164 a0_0 a0_1 a0_2 a0_3 a0_4)) else (per_Is.j0 k false a0_0 a0_1 a0_2 a0_3 a0_4))) else (per_Is.j0 k false a0_0 a0_1 a0_2 a0_3 a0_4))
set_option maxHeartbeats 8000000 in
set_option maxRecDepth 100000 in
theorem per_Is.calls (k : Nat) (a0_0 : Int) (a0_1 : Int) (a0_2 : Int) (a0_3 : Int) (a0_4 : Int) (r : Bool) (w : World) (h : per_Is.f k a0_0 a0_1 a0_2 a0_3 a0_4 = some r) :
    Calls Tryz.prog 39 #[.agg #[.int .i64 a0_0, .int .i64 a0_1, .int .i64 a0_2, .int .i64 a0_3, .int .i64 a0_4]] w fun e w' => e = .returned (.bool r) ∧ Below w.heap.size w w' := by
  have hu82 := Tryz.underlying82
  have HB := Aside0.mk (Below.refl w.heap.size w)
  have H : ((per_isIn.f a0_1 0 1000000000).bind fun t162 => (if t162 = true then ((per_isIn.f a0_2 0 a0_1).bind fun t163 => (if t163 = true then ((per_isIn.f a0_3 1 1000000000).bind fun t164 => (per_Is.j0 k t164 a0_0 a0_1 a0_2 a0_3 a0_4)) else (per_Is.j0 k false a0_0 a0_1 a0_2 a0_3 a0_4))) else (per_Is.j0 k false a0_0 a0_1 a0_2 a0_3 a0_4))) = some r := h
  clear h
  have HC2 := Aside0.mk H
  clear H
  go_enter Tryz.func39, Tryz.ntmps39
  go_upto_region 1 with (first | ((with_reducible refine gate_dst (N := 1) rfl ?_); refine box_event ?hg (N := 1) ?hd (cs := #[.int .i64 a0_0, .int .i64 a0_1, .int .i64 a0_2, .int .i64 a0_3, .int .i64 a0_4]) (t := 82) ?hr ?_; (case hd => rfl); (case hg => rfl); (case hr => first | (go_simp; done) | (go_simp; rfl)); intro gb161 hg w3 hbox hb; have n0_ := Aside0.mk (below_step (by repeat (first | (with_reducible first | exact HB.out | apply below_alloc | apply pw_below_drewN | apply below_drew1) | exact HB.out)) hb); have n1_ := Aside0.mk (hbox); have n2_ := Aside0.mk ((by rw [hg]; exact (below_size (by repeat (first | (with_reducible first | exact HB.out | apply below_alloc | apply pw_below_drewN | apply below_drew1) | exact HB.out))) : w.heap.size ≤ gb161)); have n3_ := Aside0.mk ((by rw [hg]; exact (below_size (by repeat (first | (with_reducible first | exact HB.out | apply below_alloc | apply pw_below_drewN | apply below_drew1) | exact HB.out))) : w.heap.size ≤ gb161)); clear HB; have HB := n0_; have BK161 := n1_; have GW161 := n2_; have GE161 := n3_; clear n0_ n1_ n2_ n3_; clear hb hbox hg))
  (try simp only [Act.put, List.setIfInBounds_toArray, List.set_cons_zero, List.set_cons_succ])
  go_cut [3] (fun v3 wc => ∃ (kq : Nat) (x3_1 : Bool), v3 = .bool x3_1 ∧ Aside0 (per_Is.j0 kq x3_1 a0_0 a0_1 a0_2 a0_3 a0_4 = some r) ∧ Aside0 (kq ≤ k) ∧ Aside0 (wc.heap[gb161]? = some (.cells #[.int .i64 a0_0, .int .i64 a0_1, .int .i64 a0_2, .int .i64 a0_3, .int .i64 a0_4] 82 (0, 0))) ∧ Aside0 (Below w.heap.size w wc))
  case first =>
    have H := HC2.out
    clear HC2
    replace H := Option.bind_eq_some_iff.mp H
    obtain ⟨t162, A40, H⟩ := H
    replace H : (if t162 = true then ((per_isIn.f a0_2 0 a0_1).bind fun t163 => (if t163 = true then ((per_isIn.f a0_3 1 1000000000).bind fun t164 => (per_Is.j0 k t164 a0_0 a0_1 a0_2 a0_3 a0_4)) else (per_Is.j0 k false a0_0 a0_1 a0_2 a0_3 a0_4))) else (per_Is.j0 k false a0_0 a0_1 a0_2 a0_3 a0_4)) = some r := H
    have A4 := Aside0.mk A40
    clear A40
    by_cases c5 : t162 = true
    · subst c5
      have H1 : ((per_isIn.f a0_2 0 a0_1).bind fun t163 => (if t163 = true then ((per_isIn.f a0_3 1 1000000000).bind fun t164 => (per_Is.j0 k t164 a0_0 a0_1 a0_2 a0_3 a0_4)) else (per_Is.j0 k false a0_0 a0_1 a0_2 a0_3 a0_4))) = some r := by rw [if_pos rfl] at H; exact H
      clear H
      have H := H1
      clear H1
      replace H := Option.bind_eq_some_iff.mp H
      obtain ⟨t163, A60, H⟩ := H
      replace H : (if t163 = true then ((per_isIn.f a0_3 1 1000000000).bind fun t164 => (per_Is.j0 k t164 a0_0 a0_1 a0_2 a0_3 a0_4)) else (per_Is.j0 k false a0_0 a0_1 a0_2 a0_3 a0_4)) = some r := H
      have A6 := Aside0.mk A60
      clear A60
      by_cases c7 : t163 = true
      · subst c7
        have H1 : ((per_isIn.f a0_3 1 1000000000).bind fun t164 => (per_Is.j0 k t164 a0_0 a0_1 a0_2 a0_3 a0_4)) = some r := by rw [if_pos rfl] at H; exact H
        clear H
        have H := H1
        clear H1
        replace H := Option.bind_eq_some_iff.mp H
        obtain ⟨t164, A80, H⟩ := H
        replace H : (per_Is.j0 k t164 a0_0 a0_1 a0_2 a0_3 a0_4) = some r := H
        have A8 := Aside0.mk A80
        clear A80
        have H' := Aside0.mk H
        clear H
        have hcz9_0 : w3.cell? ⟨gb161, 0, none⟩ = some (.int .i64 a0_0) := (blk_cell BK161.out 0).trans rfl
        have hcz9_1 : w3.cell? ⟨gb161, 1, none⟩ = some (.int .i64 a0_1) := (blk_cell BK161.out 1).trans rfl
        have hcz9_2 : w3.cell? ⟨gb161, 2, none⟩ = some (.int .i64 a0_2) := (blk_cell BK161.out 2).trans rfl
        have hcz9_3 : w3.cell? ⟨gb161, 3, none⟩ = some (.int .i64 a0_3) := (blk_cell BK161.out 3).trans rfl
        have hcz9_4 : w3.cell? ⟨gb161, 4, none⟩ = some (.int .i64 a0_4) := (blk_cell BK161.out 4).trans rfl
        have hfz9_0 := blk_frozen BK161.out 0
        have hfz9_1 := blk_frozen BK161.out 1
        have hfz9_2 := blk_frozen BK161.out 2
        have hfz9_3 := blk_frozen BK161.out 3
        have hfz9_4 := blk_frozen BK161.out 4
        go_wp2_with (first | ((with_reducible refine gate_callee (f := 56) rfl ?_); refine goesL_ (some 6) rfl rfl Tryz.func56 (by kernel_rfl) rfl #[.int .i64 a0_1, .int .i64 0, .int .i64 1000000000] rfl (by (try simp only [List.map_toArray, List.map_cons, List.map_nil]); first | done | rfl | (simp only [List.length_drop, List.length_take]; rfl)) ?_; (with_reducible refine (per_isIn.calls a0_1 0 1000000000 true _ A4.out).mono ?_); rintro e w' ⟨rfl, ⟨nd, rfl⟩⟩; refine ⟨_, rfl, ?_⟩) | (go_at_call 56; (with_reducible refine (per_isIn.calls a0_2 0 a0_1 true _ A6.out).mono ?_); rintro e w' ⟨rfl, ⟨nd, rfl⟩⟩) | (go_at_call 56; (with_reducible refine (per_isIn.calls a0_3 1 1000000000 t164 _ A8.out).mono ?_); rintro e w' ⟨rfl, ⟨nd, rfl⟩⟩))
        go_meet
        case rel => exact ⟨_, (t164), (by first | rfl | (simp; done) | (simp [*]; done)), H', ⟨by first | omega | exact Nat.le_refl _⟩, ⟨by (with_reducible repeat (first | refine blk_drewN ?_ _ | refine blk_drew ?_ | refine blk_alloc ?_ _)); exact BK161.out⟩, ⟨by repeat (first | (with_reducible first | exact HB.out | apply below_alloc | apply pw_below_drewN | apply below_drew1 | refine below_set ?_ GE161.out) | exact HB.out)⟩⟩
      · replace c7 := Bool.eq_false_iff.mpr c7
        subst c7
        have H1 : (per_Is.j0 k false a0_0 a0_1 a0_2 a0_3 a0_4) = some r := by rw [if_neg (show ¬ (false = true) by decide)] at H; exact H
        clear H
        have H := H1
        clear H1
        have H' := Aside0.mk H
        clear H
        have hcz10_0 : w3.cell? ⟨gb161, 0, none⟩ = some (.int .i64 a0_0) := (blk_cell BK161.out 0).trans rfl
        have hcz10_1 : w3.cell? ⟨gb161, 1, none⟩ = some (.int .i64 a0_1) := (blk_cell BK161.out 1).trans rfl
        have hcz10_2 : w3.cell? ⟨gb161, 2, none⟩ = some (.int .i64 a0_2) := (blk_cell BK161.out 2).trans rfl
        have hcz10_3 : w3.cell? ⟨gb161, 3, none⟩ = some (.int .i64 a0_3) := (blk_cell BK161.out 3).trans rfl
        have hcz10_4 : w3.cell? ⟨gb161, 4, none⟩ = some (.int .i64 a0_4) := (blk_cell BK161.out 4).trans rfl
        have hfz10_0 := blk_frozen BK161.out 0
        have hfz10_1 := blk_frozen BK161.out 1
        have hfz10_2 := blk_frozen BK161.out 2
        have hfz10_3 := blk_frozen BK161.out 3
        have hfz10_4 := blk_frozen BK161.out 4
        go_wp2_with (first | ((with_reducible refine gate_callee (f := 56) rfl ?_); refine goesL_ (some 6) rfl rfl Tryz.func56 (by kernel_rfl) rfl #[.int .i64 a0_1, .int .i64 0, .int .i64 1000000000] rfl (by (try simp only [List.map_toArray, List.map_cons, List.map_nil]); first | done | rfl | (simp only [List.length_drop, List.length_take]; rfl)) ?_; (with_reducible refine (per_isIn.calls a0_1 0 1000000000 true _ A4.out).mono ?_); rintro e w' ⟨rfl, ⟨nd, rfl⟩⟩; refine ⟨_, rfl, ?_⟩) | (go_at_call 56; (with_reducible refine (per_isIn.calls a0_2 0 a0_1 false _ A6.out).mono ?_); rintro e w' ⟨rfl, ⟨nd, rfl⟩⟩))
        go_meet
        case rel => exact ⟨_, (false), (by first | rfl | (simp; done) | (simp [*]; done)), H', ⟨by first | omega | exact Nat.le_refl _⟩, ⟨by (with_reducible repeat (first | refine blk_drewN ?_ _ | refine blk_drew ?_ | refine blk_alloc ?_ _)); exact BK161.out⟩, ⟨by repeat (first | (with_reducible first | exact HB.out | apply below_alloc | apply pw_below_drewN | apply below_drew1 | refine below_set ?_ GE161.out) | exact HB.out)⟩⟩
    · replace c5 := Bool.eq_false_iff.mpr c5
      subst c5
      have H1 : (per_Is.j0 k false a0_0 a0_1 a0_2 a0_3 a0_4) = some r := by rw [if_neg (show ¬ (false = true) by decide)] at H; exact H
      clear H
      have H := H1
      clear H1
      have H' := Aside0.mk H
      clear H
      have hcz11_0 : w3.cell? ⟨gb161, 0, none⟩ = some (.int .i64 a0_0) := (blk_cell BK161.out 0).trans rfl
      have hcz11_1 : w3.cell? ⟨gb161, 1, none⟩ = some (.int .i64 a0_1) := (blk_cell BK161.out 1).trans rfl
      have hcz11_2 : w3.cell? ⟨gb161, 2, none⟩ = some (.int .i64 a0_2) := (blk_cell BK161.out 2).trans rfl
      have hcz11_3 : w3.cell? ⟨gb161, 3, none⟩ = some (.int .i64 a0_3) := (blk_cell BK161.out 3).trans rfl
      have hcz11_4 : w3.cell? ⟨gb161, 4, none⟩ = some (.int .i64 a0_4) := (blk_cell BK161.out 4).trans rfl
      have hfz11_0 := blk_frozen BK161.out 0
      have hfz11_1 := blk_frozen BK161.out 1
      have hfz11_2 := blk_frozen BK161.out 2
      have hfz11_3 := blk_frozen BK161.out 3
      have hfz11_4 := blk_frozen BK161.out 4
      go_wp2_with (first | ((with_reducible refine gate_callee (f := 56) rfl ?_); refine goesL_ (some 6) rfl rfl Tryz.func56 (by kernel_rfl) rfl #[.int .i64 a0_1, .int .i64 0, .int .i64 1000000000] rfl (by (try simp only [List.map_toArray, List.map_cons, List.map_nil]); first | done | rfl | (simp only [List.length_drop, List.length_take]; rfl)) ?_; (with_reducible refine (per_isIn.calls a0_1 0 1000000000 false _ A4.out).mono ?_); rintro e w' ⟨rfl, ⟨nd, rfl⟩⟩; refine ⟨_, rfl, ?_⟩))
      go_meet
      case rel => exact ⟨_, (false), (by first | rfl | (simp; done) | (simp [*]; done)), H', ⟨by first | omega | exact Nat.le_refl _⟩, ⟨by (with_reducible repeat (first | refine blk_drewN ?_ _ | refine blk_drew ?_ | refine blk_alloc ?_ _)); exact BK161.out⟩, ⟨by repeat (first | (with_reducible first | exact HB.out | apply below_alloc | apply pw_below_drewN | apply below_drew1 | refine below_set ?_ GE161.out) | exact HB.out)⟩⟩
  case rest =>
    clear HC2
    try clear p2
    try clear c3
    try clear c5
    try clear c7
    try clear hcz10_0
    try clear hcz10_1
    try clear hcz10_2
    try clear hcz10_3
    try clear hcz10_4
    try clear hcz11_0
    try clear hcz11_1
    try clear hcz11_2
    try clear hcz11_3
    try clear hcz11_4
    try clear hcz9_0
    try clear hcz9_1
    try clear hcz9_2
    try clear hcz9_3
    try clear hcz9_4
    try clear hfz10_0
    try clear hfz10_1
    try clear hfz10_2
    try clear hfz10_3
    try clear hfz10_4
    try clear hfz11_0
    try clear hfz11_1
    try clear hfz11_2
    try clear hfz11_3
    try clear hfz11_4
    try clear hfz9_0
    try clear hfz9_1
    try clear hfz9_2
    try clear hfz9_3
    try clear hfz9_4
    obtain ⟨kq, x3_1, rfl, HA, HJ1, BK161, HB⟩ := hcut
    cases kq with
    | zero => exact absurd HA.out (by simp [per_Is.j0])
    | succ kj1 =>
      have H := HA.out
      clear HA
      simp only [per_Is.j0] at H
      by_cases c12 : a0_0 = 1
      · rw [if_pos c12] at H
        have c12b0 : (a0_0 == 1) = true := beq_iff_eq.mpr c12
        have c12b1 : (a0_0 != 1) = false := bne_eq_false_iff_eq.mpr c12
        clear c12
        by_cases c13 : x3_1 = true
        · subst c13
          have H1 : (some (a0_4 == 0)) = some r := by rw [if_pos rfl] at H; exact H
          clear H
          have H := H1
          clear H1
          obtain rfl := Option.some.inj H
          have hcz14_0 : wc.cell? ⟨gb161, 0, none⟩ = some (.int .i64 a0_0) := (blk_cell BK161.out 0).trans rfl
          have hcz14_1 : wc.cell? ⟨gb161, 1, none⟩ = some (.int .i64 a0_1) := (blk_cell BK161.out 1).trans rfl
          have hcz14_2 : wc.cell? ⟨gb161, 2, none⟩ = some (.int .i64 a0_2) := (blk_cell BK161.out 2).trans rfl
          have hcz14_3 : wc.cell? ⟨gb161, 3, none⟩ = some (.int .i64 a0_3) := (blk_cell BK161.out 3).trans rfl
          have hcz14_4 : wc.cell? ⟨gb161, 4, none⟩ = some (.int .i64 a0_4) := (blk_cell BK161.out 4).trans rfl
          have hfz14_0 := blk_frozen BK161.out 0
          have hfz14_1 := blk_frozen BK161.out 1
          have hfz14_2 := blk_frozen BK161.out 2
          have hfz14_3 := blk_frozen BK161.out 3
          have hfz14_4 := blk_frozen BK161.out 4
          go_wp2
          go_ret
          exact ⟨by first | rfl | (simp [errW_none, errW_some] <;> rfl) | (simp [*, errW_none, errW_some] <;> rfl), by repeat (first | (with_reducible first | exact HB.out | apply below_alloc | apply pw_below_drewN | apply below_drew1 | refine below_set ?_ GE161.out) | exact HB.out)⟩
        · replace c13 := Bool.eq_false_iff.mpr c13
          subst c13
          have H1 : (some false) = some r := by rw [if_neg (show ¬ (false = true) by decide)] at H; exact H
          clear H
          have H := H1
          clear H1
          obtain rfl := Option.some.inj H
          have hcz15_0 : wc.cell? ⟨gb161, 0, none⟩ = some (.int .i64 a0_0) := (blk_cell BK161.out 0).trans rfl
          have hcz15_1 : wc.cell? ⟨gb161, 1, none⟩ = some (.int .i64 a0_1) := (blk_cell BK161.out 1).trans rfl
          have hcz15_2 : wc.cell? ⟨gb161, 2, none⟩ = some (.int .i64 a0_2) := (blk_cell BK161.out 2).trans rfl
          have hcz15_3 : wc.cell? ⟨gb161, 3, none⟩ = some (.int .i64 a0_3) := (blk_cell BK161.out 3).trans rfl
          have hcz15_4 : wc.cell? ⟨gb161, 4, none⟩ = some (.int .i64 a0_4) := (blk_cell BK161.out 4).trans rfl
          have hfz15_0 := blk_frozen BK161.out 0
          have hfz15_1 := blk_frozen BK161.out 1
          have hfz15_2 := blk_frozen BK161.out 2
          have hfz15_3 := blk_frozen BK161.out 3
          have hfz15_4 := blk_frozen BK161.out 4
          go_wp2
          go_ret
          exact ⟨by first | rfl | (simp [errW_none, errW_some] <;> rfl) | (simp [*, errW_none, errW_some] <;> rfl), by repeat (first | (with_reducible first | exact HB.out | apply below_alloc | apply pw_below_drewN | apply below_drew1 | refine below_set ?_ GE161.out) | exact HB.out)⟩
      · rw [if_neg c12] at H
        have c12b0 : (a0_0 == 1) = false := beq_eq_false_iff_ne.mpr c12
        have c12b1 : (a0_0 != 1) = true := bne_iff_ne.mpr c12
        by_cases c16 : a0_0 = 2
        · rw [if_pos c16] at H
          have c16b0 : (a0_0 == 2) = true := beq_iff_eq.mpr c16
          have c16b1 : (a0_0 != 2) = false := bne_eq_false_iff_eq.mpr c16
          clear c16
          by_cases c17 : x3_1 = true
          · subst c17
            have H1 : ((per_isIn.f a0_4 1 1000000000).bind fun t165 => (some t165)) = some r := by rw [if_pos rfl] at H; exact H
            clear H
            have H := H1
            clear H1
            replace H := Option.bind_eq_some_iff.mp H
            obtain ⟨t165, A180, H⟩ := H
            replace H : (some t165) = some r := H
            have A18 := Aside0.mk A180
            clear A180
            obtain rfl := Option.some.inj H
            have hcz19_0 : wc.cell? ⟨gb161, 0, none⟩ = some (.int .i64 a0_0) := (blk_cell BK161.out 0).trans rfl
            have hcz19_1 : wc.cell? ⟨gb161, 1, none⟩ = some (.int .i64 a0_1) := (blk_cell BK161.out 1).trans rfl
            have hcz19_2 : wc.cell? ⟨gb161, 2, none⟩ = some (.int .i64 a0_2) := (blk_cell BK161.out 2).trans rfl
            have hcz19_3 : wc.cell? ⟨gb161, 3, none⟩ = some (.int .i64 a0_3) := (blk_cell BK161.out 3).trans rfl
            have hcz19_4 : wc.cell? ⟨gb161, 4, none⟩ = some (.int .i64 a0_4) := (blk_cell BK161.out 4).trans rfl
            have hfz19_0 := blk_frozen BK161.out 0
            have hfz19_1 := blk_frozen BK161.out 1
            have hfz19_2 := blk_frozen BK161.out 2
            have hfz19_3 := blk_frozen BK161.out 3
            have hfz19_4 := blk_frozen BK161.out 4
            go_wp2_with (first | (go_at_call 56; (with_reducible refine (per_isIn.calls a0_4 1 1000000000 t165 _ A18.out).mono ?_); rintro e w' ⟨rfl, ⟨nd, rfl⟩⟩))
            go_ret
            exact ⟨by first | rfl | (simp [errW_none, errW_some] <;> rfl) | (simp [*, errW_none, errW_some] <;> rfl), by repeat (first | (with_reducible first | exact HB.out | apply below_alloc | apply pw_below_drewN | apply below_drew1 | refine below_set ?_ GE161.out) | exact HB.out)⟩
          · replace c17 := Bool.eq_false_iff.mpr c17
            subst c17
            have H1 : (some false) = some r := by rw [if_neg (show ¬ (false = true) by decide)] at H; exact H
            clear H
            have H := H1
            clear H1
            obtain rfl := Option.some.inj H
            have hcz20_0 : wc.cell? ⟨gb161, 0, none⟩ = some (.int .i64 a0_0) := (blk_cell BK161.out 0).trans rfl
            have hcz20_1 : wc.cell? ⟨gb161, 1, none⟩ = some (.int .i64 a0_1) := (blk_cell BK161.out 1).trans rfl
            have hcz20_2 : wc.cell? ⟨gb161, 2, none⟩ = some (.int .i64 a0_2) := (blk_cell BK161.out 2).trans rfl
            have hcz20_3 : wc.cell? ⟨gb161, 3, none⟩ = some (.int .i64 a0_3) := (blk_cell BK161.out 3).trans rfl
            have hcz20_4 : wc.cell? ⟨gb161, 4, none⟩ = some (.int .i64 a0_4) := (blk_cell BK161.out 4).trans rfl
            have hfz20_0 := blk_frozen BK161.out 0
            have hfz20_1 := blk_frozen BK161.out 1
            have hfz20_2 := blk_frozen BK161.out 2
            have hfz20_3 := blk_frozen BK161.out 3
            have hfz20_4 := blk_frozen BK161.out 4
            go_wp2
            go_ret
            exact ⟨by first | rfl | (simp [errW_none, errW_some] <;> rfl) | (simp [*, errW_none, errW_some] <;> rfl), by repeat (first | (with_reducible first | exact HB.out | apply below_alloc | apply pw_below_drewN | apply below_drew1 | refine below_set ?_ GE161.out) | exact HB.out)⟩
        · rw [if_neg c16] at H
          have c16b0 : (a0_0 == 2) = false := beq_eq_false_iff_ne.mpr c16
          have c16b1 : (a0_0 != 2) = true := bne_iff_ne.mpr c16
          by_cases c21 : a0_0 = 3
          · rw [if_pos c21] at H
            have c21b0 : (a0_0 == 3) = true := beq_iff_eq.mpr c21
            have c21b1 : (a0_0 != 3) = false := bne_eq_false_iff_eq.mpr c21
            clear c21
            replace H := Option.bind_eq_some_iff.mp H
            obtain ⟨t166, A220, H⟩ := H
            replace H : (if t166 = true then ((per_isIn.f a0_3 0 1000000000).bind fun t167 => (if t167 = true then ((per_isIn.f a0_2 1 1000000000).bind fun t168 => (if t168 = true then (some (a0_4 == 0)) else (some false))) else (some false))) else (some false)) = some r := H
            have A22 := Aside0.mk A220
            clear A220
            by_cases c23 : t166 = true
            · subst c23
              have H1 : ((per_isIn.f a0_3 0 1000000000).bind fun t167 => (if t167 = true then ((per_isIn.f a0_2 1 1000000000).bind fun t168 => (if t168 = true then (some (a0_4 == 0)) else (some false))) else (some false))) = some r := by rw [if_pos rfl] at H; exact H
              clear H
              have H := H1
              clear H1
              replace H := Option.bind_eq_some_iff.mp H
              obtain ⟨t167, A240, H⟩ := H
              replace H : (if t167 = true then ((per_isIn.f a0_2 1 1000000000).bind fun t168 => (if t168 = true then (some (a0_4 == 0)) else (some false))) else (some false)) = some r := H
              have A24 := Aside0.mk A240
              clear A240
              by_cases c25 : t167 = true
              · subst c25
                have H1 : ((per_isIn.f a0_2 1 1000000000).bind fun t168 => (if t168 = true then (some (a0_4 == 0)) else (some false))) = some r := by rw [if_pos rfl] at H; exact H
                clear H
                have H := H1
                clear H1
                replace H := Option.bind_eq_some_iff.mp H
                obtain ⟨t168, A260, H⟩ := H
                replace H : (if t168 = true then (some (a0_4 == 0)) else (some false)) = some r := H
                have A26 := Aside0.mk A260
                clear A260
                by_cases c27 : t168 = true
                · subst c27
                  have H1 : (some (a0_4 == 0)) = some r := by rw [if_pos rfl] at H; exact H
                  clear H
                  have H := H1
                  clear H1
                  obtain rfl := Option.some.inj H
                  have hcz28_0 : wc.cell? ⟨gb161, 0, none⟩ = some (.int .i64 a0_0) := (blk_cell BK161.out 0).trans rfl
                  have hcz28_1 : wc.cell? ⟨gb161, 1, none⟩ = some (.int .i64 a0_1) := (blk_cell BK161.out 1).trans rfl
                  have hcz28_2 : wc.cell? ⟨gb161, 2, none⟩ = some (.int .i64 a0_2) := (blk_cell BK161.out 2).trans rfl
                  have hcz28_3 : wc.cell? ⟨gb161, 3, none⟩ = some (.int .i64 a0_3) := (blk_cell BK161.out 3).trans rfl
                  have hcz28_4 : wc.cell? ⟨gb161, 4, none⟩ = some (.int .i64 a0_4) := (blk_cell BK161.out 4).trans rfl
                  have hfz28_0 := blk_frozen BK161.out 0
                  have hfz28_1 := blk_frozen BK161.out 1
                  have hfz28_2 := blk_frozen BK161.out 2
                  have hfz28_3 := blk_frozen BK161.out 3
                  have hfz28_4 := blk_frozen BK161.out 4
                  go_wp2_with (first | ((with_reducible refine gate_callee (f := 56) rfl ?_); refine goesL_ (some 41) rfl rfl Tryz.func56 (by kernel_rfl) rfl #[.int .i64 a0_1, .int .i64 0, .int .i64 1000000000] rfl (by (try simp only [List.map_toArray, List.map_cons, List.map_nil]); first | done | rfl | (simp only [List.length_drop, List.length_take]; rfl)) ?_; (with_reducible refine (per_isIn.calls a0_1 0 1000000000 true _ A22.out).mono ?_); rintro e w' ⟨rfl, ⟨nd, rfl⟩⟩; refine ⟨_, rfl, ?_⟩) | (go_at_call 56; (with_reducible refine (per_isIn.calls a0_3 0 1000000000 true _ A24.out).mono ?_); rintro e w' ⟨rfl, ⟨nd, rfl⟩⟩) | (go_at_call 56; (with_reducible refine (per_isIn.calls a0_2 1 1000000000 true _ A26.out).mono ?_); rintro e w' ⟨rfl, ⟨nd, rfl⟩⟩))
                  go_ret
                  exact ⟨by first | rfl | (simp [errW_none, errW_some] <;> rfl) | (simp [*, errW_none, errW_some] <;> rfl), by repeat (first | (with_reducible first | exact HB.out | apply below_alloc | apply pw_below_drewN | apply below_drew1 | refine below_set ?_ GE161.out) | exact HB.out)⟩
                · replace c27 := Bool.eq_false_iff.mpr c27
                  subst c27
                  have H1 : (some false) = some r := by rw [if_neg (show ¬ (false = true) by decide)] at H; exact H
                  clear H
                  have H := H1
                  clear H1
                  obtain rfl := Option.some.inj H
                  have hcz29_0 : wc.cell? ⟨gb161, 0, none⟩ = some (.int .i64 a0_0) := (blk_cell BK161.out 0).trans rfl
                  have hcz29_1 : wc.cell? ⟨gb161, 1, none⟩ = some (.int .i64 a0_1) := (blk_cell BK161.out 1).trans rfl
                  have hcz29_2 : wc.cell? ⟨gb161, 2, none⟩ = some (.int .i64 a0_2) := (blk_cell BK161.out 2).trans rfl
                  have hcz29_3 : wc.cell? ⟨gb161, 3, none⟩ = some (.int .i64 a0_3) := (blk_cell BK161.out 3).trans rfl
                  have hcz29_4 : wc.cell? ⟨gb161, 4, none⟩ = some (.int .i64 a0_4) := (blk_cell BK161.out 4).trans rfl
                  have hfz29_0 := blk_frozen BK161.out 0
                  have hfz29_1 := blk_frozen BK161.out 1
                  have hfz29_2 := blk_frozen BK161.out 2
                  have hfz29_3 := blk_frozen BK161.out 3
                  have hfz29_4 := blk_frozen BK161.out 4
                  go_wp2_with (first | ((with_reducible refine gate_callee (f := 56) rfl ?_); refine goesL_ (some 41) rfl rfl Tryz.func56 (by kernel_rfl) rfl #[.int .i64 a0_1, .int .i64 0, .int .i64 1000000000] rfl (by (try simp only [List.map_toArray, List.map_cons, List.map_nil]); first | done | rfl | (simp only [List.length_drop, List.length_take]; rfl)) ?_; (with_reducible refine (per_isIn.calls a0_1 0 1000000000 true _ A22.out).mono ?_); rintro e w' ⟨rfl, ⟨nd, rfl⟩⟩; refine ⟨_, rfl, ?_⟩) | (go_at_call 56; (with_reducible refine (per_isIn.calls a0_3 0 1000000000 true _ A24.out).mono ?_); rintro e w' ⟨rfl, ⟨nd, rfl⟩⟩) | (go_at_call 56; (with_reducible refine (per_isIn.calls a0_2 1 1000000000 false _ A26.out).mono ?_); rintro e w' ⟨rfl, ⟨nd, rfl⟩⟩))
                  go_ret
                  exact ⟨by first | rfl | (simp [errW_none, errW_some] <;> rfl) | (simp [*, errW_none, errW_some] <;> rfl), by repeat (first | (with_reducible first | exact HB.out | apply below_alloc | apply pw_below_drewN | apply below_drew1 | refine below_set ?_ GE161.out) | exact HB.out)⟩
              · replace c25 := Bool.eq_false_iff.mpr c25
                subst c25
                have H1 : (some false) = some r := by rw [if_neg (show ¬ (false = true) by decide)] at H; exact H
                clear H
                have H := H1
                clear H1
                obtain rfl := Option.some.inj H
                have hcz30_0 : wc.cell? ⟨gb161, 0, none⟩ = some (.int .i64 a0_0) := (blk_cell BK161.out 0).trans rfl
                have hcz30_1 : wc.cell? ⟨gb161, 1, none⟩ = some (.int .i64 a0_1) := (blk_cell BK161.out 1).trans rfl
                have hcz30_2 : wc.cell? ⟨gb161, 2, none⟩ = some (.int .i64 a0_2) := (blk_cell BK161.out 2).trans rfl
                have hcz30_3 : wc.cell? ⟨gb161, 3, none⟩ = some (.int .i64 a0_3) := (blk_cell BK161.out 3).trans rfl
                have hcz30_4 : wc.cell? ⟨gb161, 4, none⟩ = some (.int .i64 a0_4) := (blk_cell BK161.out 4).trans rfl
                have hfz30_0 := blk_frozen BK161.out 0
                have hfz30_1 := blk_frozen BK161.out 1
                have hfz30_2 := blk_frozen BK161.out 2
                have hfz30_3 := blk_frozen BK161.out 3
                have hfz30_4 := blk_frozen BK161.out 4
                go_wp2_with (first | ((with_reducible refine gate_callee (f := 56) rfl ?_); refine goesL_ (some 41) rfl rfl Tryz.func56 (by kernel_rfl) rfl #[.int .i64 a0_1, .int .i64 0, .int .i64 1000000000] rfl (by (try simp only [List.map_toArray, List.map_cons, List.map_nil]); first | done | rfl | (simp only [List.length_drop, List.length_take]; rfl)) ?_; (with_reducible refine (per_isIn.calls a0_1 0 1000000000 true _ A22.out).mono ?_); rintro e w' ⟨rfl, ⟨nd, rfl⟩⟩; refine ⟨_, rfl, ?_⟩) | (go_at_call 56; (with_reducible refine (per_isIn.calls a0_3 0 1000000000 false _ A24.out).mono ?_); rintro e w' ⟨rfl, ⟨nd, rfl⟩⟩))
                go_ret
                exact ⟨by first | rfl | (simp [errW_none, errW_some] <;> rfl) | (simp [*, errW_none, errW_some] <;> rfl), by repeat (first | (with_reducible first | exact HB.out | apply below_alloc | apply pw_below_drewN | apply below_drew1 | refine below_set ?_ GE161.out) | exact HB.out)⟩
            · replace c23 := Bool.eq_false_iff.mpr c23
              subst c23
              have H1 : (some false) = some r := by rw [if_neg (show ¬ (false = true) by decide)] at H; exact H
              clear H
              have H := H1
              clear H1
              obtain rfl := Option.some.inj H
              have hcz31_0 : wc.cell? ⟨gb161, 0, none⟩ = some (.int .i64 a0_0) := (blk_cell BK161.out 0).trans rfl
              have hcz31_1 : wc.cell? ⟨gb161, 1, none⟩ = some (.int .i64 a0_1) := (blk_cell BK161.out 1).trans rfl
              have hcz31_2 : wc.cell? ⟨gb161, 2, none⟩ = some (.int .i64 a0_2) := (blk_cell BK161.out 2).trans rfl
              have hcz31_3 : wc.cell? ⟨gb161, 3, none⟩ = some (.int .i64 a0_3) := (blk_cell BK161.out 3).trans rfl
              have hcz31_4 : wc.cell? ⟨gb161, 4, none⟩ = some (.int .i64 a0_4) := (blk_cell BK161.out 4).trans rfl
              have hfz31_0 := blk_frozen BK161.out 0
              have hfz31_1 := blk_frozen BK161.out 1
              have hfz31_2 := blk_frozen BK161.out 2
              have hfz31_3 := blk_frozen BK161.out 3
              have hfz31_4 := blk_frozen BK161.out 4
              go_wp2_with (first | ((with_reducible refine gate_callee (f := 56) rfl ?_); refine goesL_ (some 41) rfl rfl Tryz.func56 (by kernel_rfl) rfl #[.int .i64 a0_1, .int .i64 0, .int .i64 1000000000] rfl (by (try simp only [List.map_toArray, List.map_cons, List.map_nil]); first | done | rfl | (simp only [List.length_drop, List.length_take]; rfl)) ?_; (with_reducible refine (per_isIn.calls a0_1 0 1000000000 false _ A22.out).mono ?_); rintro e w' ⟨rfl, ⟨nd, rfl⟩⟩; refine ⟨_, rfl, ?_⟩))
              go_ret
              exact ⟨by first | rfl | (simp [errW_none, errW_some] <;> rfl) | (simp [*, errW_none, errW_some] <;> rfl), by repeat (first | (with_reducible first | exact HB.out | apply below_alloc | apply pw_below_drewN | apply below_drew1 | refine below_set ?_ GE161.out) | exact HB.out)⟩
          · rw [if_neg c21] at H
            have c21b0 : (a0_0 == 3) = false := beq_eq_false_iff_ne.mpr c21
            have c21b1 : (a0_0 != 3) = true := bne_iff_ne.mpr c21
            obtain rfl := Option.some.inj H
            have hcz32_0 : wc.cell? ⟨gb161, 0, none⟩ = some (.int .i64 a0_0) := (blk_cell BK161.out 0).trans rfl
            have hcz32_1 : wc.cell? ⟨gb161, 1, none⟩ = some (.int .i64 a0_1) := (blk_cell BK161.out 1).trans rfl
            have hcz32_2 : wc.cell? ⟨gb161, 2, none⟩ = some (.int .i64 a0_2) := (blk_cell BK161.out 2).trans rfl
            have hcz32_3 : wc.cell? ⟨gb161, 3, none⟩ = some (.int .i64 a0_3) := (blk_cell BK161.out 3).trans rfl
            have hcz32_4 : wc.cell? ⟨gb161, 4, none⟩ = some (.int .i64 a0_4) := (blk_cell BK161.out 4).trans rfl
            have hfz32_0 := blk_frozen BK161.out 0
            have hfz32_1 := blk_frozen BK161.out 1
            have hfz32_2 := blk_frozen BK161.out 2
            have hfz32_3 := blk_frozen BK161.out 3
            have hfz32_4 := blk_frozen BK161.out 4
            go_wp2
            go_ret
            exact ⟨by first | rfl | (simp [errW_none, errW_some] <;> rfl) | (simp [*, errW_none, errW_some] <;> rfl), by repeat (first | (with_reducible first | exact HB.out | apply below_alloc | apply pw_below_drewN | apply below_drew1 | refine below_set ?_ GE161.out) | exact HB.out)⟩

/-! ### track_Is: function 25 -/
def track_Is.f (k : Nat) (a0_0 : Int) (a0_1 : Int) (a0_2 : Int) (a0_3 : Int) (a0_4 : Int) (a0_5 : Int) (a0_6 : Int) (a0_7 : Int) (a0_8 : Int) (a0_9 : Int) (a0_10 : Int) (a0_11 : Int) (a0_12 : Int) (a0_13 : Int) (a0_14 : Int) (a0_15 : Int) (a0_16 : Int) (a0_17 : Int) : Option (Bool) := (track_isIn.f a0_0 1 12).bind fun t170 => (if t170 = true then ((track_isIn.f a0_1 0 1073741824).bind fun t171 => (if t171 = true then ((track_isIn.f a0_16 0 1073741824).bind fun t172 => (if t172 = true then ((track_isIn.f a0_2 0 1000).bind fun t173 => (if t173 = true then ((track_isIn.f a0_4 0 1000).bind fun t174 => (if t174 = true then ((track_isIn.f a0_5 0 1000).bind fun t175 => (if t175 = true then ((track_isIn.f a0_3 1 1000).bind fun t176 => (if t176 = true then ((per_Is.f k a0_6 a0_7 a0_8 a0_9 a0_10).bind fun t177 => (if t177 = true then ((per_Is.f k a0_11 a0_12 a0_13 a0_14 a0_15).bind fun t178 => (if t178 = true then ((track_isIn.f a0_17 0 2).bind fun t179 => (some t179)) else (some false))) else (some false))) else (some false))) else (some false))) else (some false))) else (some false))) else (some false))) else (some false))) else (some false))
set_option maxHeartbeats 8000000 in
set_option maxRecDepth 100000 in
theorem track_Is.calls (k : Nat) (a0_0 : Int) (a0_1 : Int) (a0_2 : Int) (a0_3 : Int) (a0_4 : Int) (a0_5 : Int) (a0_6 : Int) (a0_7 : Int) (a0_8 : Int) (a0_9 : Int) (a0_10 : Int) (a0_11 : Int) (a0_12 : Int) (a0_13 : Int) (a0_14 : Int) (a0_15 : Int) (a0_16 : Int) (a0_17 : Int) (r : Bool) (w : World) (h : track_Is.f k a0_0 a0_1 a0_2 a0_3 a0_4 a0_5 a0_6 a0_7 a0_8 a0_9 a0_10 a0_11 a0_12 a0_13 a0_14 a0_15 a0_16 a0_17 = some r) :
    Calls Tryz.prog 25 #[.agg #[.int .i64 a0_0, .int .i64 a0_1, .int .i64 a0_2, .int .i64 a0_3, .int .i64 a0_4, .int .i64 a0_5, .int .i64 a0_6, .int .i64 a0_7, .int .i64 a0_8, .int .i64 a0_9, .int .i64 a0_10, .int .i64 a0_11, .int .i64 a0_12, .int .i64 a0_13, .int .i64 a0_14, .int .i64 a0_15, .int .i64 a0_16, .int .i64 a0_17]] w fun e w' => e = .returned (.bool r) ∧ Below w.heap.size w w' := by
  have hu84 := Tryz.underlying84
  have hu82 := Tryz.underlying82
  have HB := Aside0.mk (Below.refl w.heap.size w)
  have H : ((track_isIn.f a0_0 1 12).bind fun t170 => (if t170 = true then ((track_isIn.f a0_1 0 1073741824).bind fun t171 => (if t171 = true then ((track_isIn.f a0_16 0 1073741824).bind fun t172 => (if t172 = true then ((track_isIn.f a0_2 0 1000).bind fun t173 => (if t173 = true then ((track_isIn.f a0_4 0 1000).bind fun t174 => (if t174 = true then ((track_isIn.f a0_5 0 1000).bind fun t175 => (if t175 = true then ((track_isIn.f a0_3 1 1000).bind fun t176 => (if t176 = true then ((per_Is.f k a0_6 a0_7 a0_8 a0_9 a0_10).bind fun t177 => (if t177 = true then ((per_Is.f k a0_11 a0_12 a0_13 a0_14 a0_15).bind fun t178 => (if t178 = true then ((track_isIn.f a0_17 0 2).bind fun t179 => (some t179)) else (some false))) else (some false))) else (some false))) else (some false))) else (some false))) else (some false))) else (some false))) else (some false))) else (some false))) = some r := h
  clear h
  replace H := Option.bind_eq_some_iff.mp H
  obtain ⟨t170, A20, H⟩ := H
  replace H : (if t170 = true then ((track_isIn.f a0_1 0 1073741824).bind fun t171 => (if t171 = true then ((track_isIn.f a0_16 0 1073741824).bind fun t172 => (if t172 = true then ((track_isIn.f a0_2 0 1000).bind fun t173 => (if t173 = true then ((track_isIn.f a0_4 0 1000).bind fun t174 => (if t174 = true then ((track_isIn.f a0_5 0 1000).bind fun t175 => (if t175 = true then ((track_isIn.f a0_3 1 1000).bind fun t176 => (if t176 = true then ((per_Is.f k a0_6 a0_7 a0_8 a0_9 a0_10).bind fun t177 => (if t177 = true then ((per_Is.f k a0_11 a0_12 a0_13 a0_14 a0_15).bind fun t178 => (if t178 = true then ((track_isIn.f a0_17 0 2).bind fun t179 => (some t179)) else (some false))) else (some false))) else (some false))) else (some false))) else (some false))) else (some false))) else (some false))) else (some false))) else (some false)) = some r := H
  have A2 := Aside0.mk A20
  clear A20
  by_cases c3 : t170 = true
  · subst c3
    have H1 : ((track_isIn.f a0_1 0 1073741824).bind fun t171 => (if t171 = true then ((track_isIn.f a0_16 0 1073741824).bind fun t172 => (if t172 = true then ((track_isIn.f a0_2 0 1000).bind fun t173 => (if t173 = true then ((track_isIn.f a0_4 0 1000).bind fun t174 => (if t174 = true then ((track_isIn.f a0_5 0 1000).bind fun t175 => (if t175 = true then ((track_isIn.f a0_3 1 1000).bind fun t176 => (if t176 = true then ((per_Is.f k a0_6 a0_7 a0_8 a0_9 a0_10).bind fun t177 => (if t177 = true then ((per_Is.f k a0_11 a0_12 a0_13 a0_14 a0_15).bind fun t178 => (if t178 = true then ((track_isIn.f a0_17 0 2).bind fun t179 => (some t179)) else (some false))) else (some false))) else (some false))) else (some false))) else (some false))) else (some false))) else (some false))) else (some false))) = some r := by rw [if_pos rfl] at H; exact H
    clear H
    have H := H1
    clear H1
    replace H := Option.bind_eq_some_iff.mp H
    obtain ⟨t171, A40, H⟩ := H
    replace H : (if t171 = true then ((track_isIn.f a0_16 0 1073741824).bind fun t172 => (if t172 = true then ((track_isIn.f a0_2 0 1000).bind fun t173 => (if t173 = true then ((track_isIn.f a0_4 0 1000).bind fun t174 => (if t174 = true then ((track_isIn.f a0_5 0 1000).bind fun t175 => (if t175 = true then ((track_isIn.f a0_3 1 1000).bind fun t176 => (if t176 = true then ((per_Is.f k a0_6 a0_7 a0_8 a0_9 a0_10).bind fun t177 => (if t177 = true then ((per_Is.f k a0_11 a0_12 a0_13 a0_14 a0_15).bind fun t178 => (if t178 = true then ((track_isIn.f a0_17 0 2).bind fun t179 => (some t179)) else (some false))) else (some false))) else (some false))) else (some false))) else (some false))) else (some false))) else (some false))) else (some false)) = some r := H
    have A4 := Aside0.mk A40
    clear A40
    by_cases c5 : t171 = true
    · subst c5
      have H1 : ((track_isIn.f a0_16 0 1073741824).bind fun t172 => (if t172 = true then ((track_isIn.f a0_2 0 1000).bind fun t173 => (if t173 = true then ((track_isIn.f a0_4 0 1000).bind fun t174 => (if t174 = true then ((track_isIn.f a0_5 0 1000).bind fun t175 => (if t175 = true then ((track_isIn.f a0_3 1 1000).bind fun t176 => (if t176 = true then ((per_Is.f k a0_6 a0_7 a0_8 a0_9 a0_10).bind fun t177 => (if t177 = true then ((per_Is.f k a0_11 a0_12 a0_13 a0_14 a0_15).bind fun t178 => (if t178 = true then ((track_isIn.f a0_17 0 2).bind fun t179 => (some t179)) else (some false))) else (some false))) else (some false))) else (some false))) else (some false))) else (some false))) else (some false))) = some r := by rw [if_pos rfl] at H; exact H
      clear H
      have H := H1
      clear H1
      replace H := Option.bind_eq_some_iff.mp H
      obtain ⟨t172, A60, H⟩ := H
      replace H : (if t172 = true then ((track_isIn.f a0_2 0 1000).bind fun t173 => (if t173 = true then ((track_isIn.f a0_4 0 1000).bind fun t174 => (if t174 = true then ((track_isIn.f a0_5 0 1000).bind fun t175 => (if t175 = true then ((track_isIn.f a0_3 1 1000).bind fun t176 => (if t176 = true then ((per_Is.f k a0_6 a0_7 a0_8 a0_9 a0_10).bind fun t177 => (if t177 = true then ((per_Is.f k a0_11 a0_12 a0_13 a0_14 a0_15).bind fun t178 => (if t178 = true then ((track_isIn.f a0_17 0 2).bind fun t179 => (some t179)) else (some false))) else (some false))) else (some false))) else (some false))) else (some false))) else (some false))) else (some false)) = some r := H
      have A6 := Aside0.mk A60
      clear A60
      by_cases c7 : t172 = true
      · subst c7
        have H1 : ((track_isIn.f a0_2 0 1000).bind fun t173 => (if t173 = true then ((track_isIn.f a0_4 0 1000).bind fun t174 => (if t174 = true then ((track_isIn.f a0_5 0 1000).bind fun t175 => (if t175 = true then ((track_isIn.f a0_3 1 1000).bind fun t176 => (if t176 = true then ((per_Is.f k a0_6 a0_7 a0_8 a0_9 a0_10).bind fun t177 => (if t177 = true then ((per_Is.f k a0_11 a0_12 a0_13 a0_14 a0_15).bind fun t178 => (if t178 = true then ((track_isIn.f a0_17 0 2).bind fun t179 => (some t179)) else (some false))) else (some false))) else (some false))) else (some false))) else (some false))) else (some false))) = some r := by rw [if_pos rfl] at H; exact H
        clear H
        have H := H1
        clear H1
        replace H := Option.bind_eq_some_iff.mp H
        obtain ⟨t173, A80, H⟩ := H
        replace H : (if t173 = true then ((track_isIn.f a0_4 0 1000).bind fun t174 => (if t174 = true then ((track_isIn.f a0_5 0 1000).bind fun t175 => (if t175 = true then ((track_isIn.f a0_3 1 1000).bind fun t176 => (if t176 = true then ((per_Is.f k a0_6 a0_7 a0_8 a0_9 a0_10).bind fun t177 => (if t177 = true then ((per_Is.f k a0_11 a0_12 a0_13 a0_14 a0_15).bind fun t178 => (if t178 = true then ((track_isIn.f a0_17 0 2).bind fun t179 => (some t179)) else (some false))) else (some false))) else (some false))) else (some false))) else (some false))) else (some false)) = some r := H
        have A8 := Aside0.mk A80
        clear A80
        by_cases c9 : t173 = true
        · subst c9
          have H1 : ((track_isIn.f a0_4 0 1000).bind fun t174 => (if t174 = true then ((track_isIn.f a0_5 0 1000).bind fun t175 => (if t175 = true then ((track_isIn.f a0_3 1 1000).bind fun t176 => (if t176 = true then ((per_Is.f k a0_6 a0_7 a0_8 a0_9 a0_10).bind fun t177 => (if t177 = true then ((per_Is.f k a0_11 a0_12 a0_13 a0_14 a0_15).bind fun t178 => (if t178 = true then ((track_isIn.f a0_17 0 2).bind fun t179 => (some t179)) else (some false))) else (some false))) else (some false))) else (some false))) else (some false))) = some r := by rw [if_pos rfl] at H; exact H
          clear H
          have H := H1
          clear H1
          replace H := Option.bind_eq_some_iff.mp H
          obtain ⟨t174, A100, H⟩ := H
          replace H : (if t174 = true then ((track_isIn.f a0_5 0 1000).bind fun t175 => (if t175 = true then ((track_isIn.f a0_3 1 1000).bind fun t176 => (if t176 = true then ((per_Is.f k a0_6 a0_7 a0_8 a0_9 a0_10).bind fun t177 => (if t177 = true then ((per_Is.f k a0_11 a0_12 a0_13 a0_14 a0_15).bind fun t178 => (if t178 = true then ((track_isIn.f a0_17 0 2).bind fun t179 => (some t179)) else (some false))) else (some false))) else (some false))) else (some false))) else (some false)) = some r := H
          have A10 := Aside0.mk A100
          clear A100
          by_cases c11 : t174 = true
          · subst c11
            have H1 : ((track_isIn.f a0_5 0 1000).bind fun t175 => (if t175 = true then ((track_isIn.f a0_3 1 1000).bind fun t176 => (if t176 = true then ((per_Is.f k a0_6 a0_7 a0_8 a0_9 a0_10).bind fun t177 => (if t177 = true then ((per_Is.f k a0_11 a0_12 a0_13 a0_14 a0_15).bind fun t178 => (if t178 = true then ((track_isIn.f a0_17 0 2).bind fun t179 => (some t179)) else (some false))) else (some false))) else (some false))) else (some false))) = some r := by rw [if_pos rfl] at H; exact H
            clear H
            have H := H1
            clear H1
            replace H := Option.bind_eq_some_iff.mp H
            obtain ⟨t175, A120, H⟩ := H
            replace H : (if t175 = true then ((track_isIn.f a0_3 1 1000).bind fun t176 => (if t176 = true then ((per_Is.f k a0_6 a0_7 a0_8 a0_9 a0_10).bind fun t177 => (if t177 = true then ((per_Is.f k a0_11 a0_12 a0_13 a0_14 a0_15).bind fun t178 => (if t178 = true then ((track_isIn.f a0_17 0 2).bind fun t179 => (some t179)) else (some false))) else (some false))) else (some false))) else (some false)) = some r := H
            have A12 := Aside0.mk A120
            clear A120
            by_cases c13 : t175 = true
            · subst c13
              have H1 : ((track_isIn.f a0_3 1 1000).bind fun t176 => (if t176 = true then ((per_Is.f k a0_6 a0_7 a0_8 a0_9 a0_10).bind fun t177 => (if t177 = true then ((per_Is.f k a0_11 a0_12 a0_13 a0_14 a0_15).bind fun t178 => (if t178 = true then ((track_isIn.f a0_17 0 2).bind fun t179 => (some t179)) else (some false))) else (some false))) else (some false))) = some r := by rw [if_pos rfl] at H; exact H
              clear H
              have H := H1
              clear H1
              replace H := Option.bind_eq_some_iff.mp H
              obtain ⟨t176, A140, H⟩ := H
              replace H : (if t176 = true then ((per_Is.f k a0_6 a0_7 a0_8 a0_9 a0_10).bind fun t177 => (if t177 = true then ((per_Is.f k a0_11 a0_12 a0_13 a0_14 a0_15).bind fun t178 => (if t178 = true then ((track_isIn.f a0_17 0 2).bind fun t179 => (some t179)) else (some false))) else (some false))) else (some false)) = some r := H
              have A14 := Aside0.mk A140
              clear A140
              by_cases c15 : t176 = true
              · subst c15
                have H1 : ((per_Is.f k a0_6 a0_7 a0_8 a0_9 a0_10).bind fun t177 => (if t177 = true then ((per_Is.f k a0_11 a0_12 a0_13 a0_14 a0_15).bind fun t178 => (if t178 = true then ((track_isIn.f a0_17 0 2).bind fun t179 => (some t179)) else (some false))) else (some false))) = some r := by rw [if_pos rfl] at H; exact H
                clear H
                have H := H1
                clear H1
                replace H := Option.bind_eq_some_iff.mp H
                obtain ⟨t177, A160, H⟩ := H
                replace H : (if t177 = true then ((per_Is.f k a0_11 a0_12 a0_13 a0_14 a0_15).bind fun t178 => (if t178 = true then ((track_isIn.f a0_17 0 2).bind fun t179 => (some t179)) else (some false))) else (some false)) = some r := H
                have A16 := Aside0.mk A160
                clear A160
                by_cases c17 : t177 = true
                · subst c17
                  have H1 : ((per_Is.f k a0_11 a0_12 a0_13 a0_14 a0_15).bind fun t178 => (if t178 = true then ((track_isIn.f a0_17 0 2).bind fun t179 => (some t179)) else (some false))) = some r := by rw [if_pos rfl] at H; exact H
                  clear H
                  have H := H1
                  clear H1
                  replace H := Option.bind_eq_some_iff.mp H
                  obtain ⟨t178, A180, H⟩ := H
                  replace H : (if t178 = true then ((track_isIn.f a0_17 0 2).bind fun t179 => (some t179)) else (some false)) = some r := H
                  have A18 := Aside0.mk A180
                  clear A180
                  by_cases c19 : t178 = true
                  · subst c19
                    have H1 : ((track_isIn.f a0_17 0 2).bind fun t179 => (some t179)) = some r := by rw [if_pos rfl] at H; exact H
                    clear H
                    have H := H1
                    clear H1
                    replace H := Option.bind_eq_some_iff.mp H
                    obtain ⟨t179, A200, H⟩ := H
                    replace H : (some t179) = some r := H
                    have A20 := Aside0.mk A200
                    clear A200
                    obtain rfl := Option.some.inj H
                    go_enter Tryz.func25, Tryz.ntmps25
                    go_wp2_with (first | ((with_reducible refine gate_dst (N := 1) rfl ?_); refine box_event ?hg (N := 1) ?hd (cs := #[.int .i64 a0_0, .int .i64 a0_1, .int .i64 a0_2, .int .i64 a0_3, .int .i64 a0_4, .int .i64 a0_5, .int .i64 a0_6, .int .i64 a0_7, .int .i64 a0_8, .int .i64 a0_9, .int .i64 a0_10, .int .i64 a0_11, .int .i64 a0_12, .int .i64 a0_13, .int .i64 a0_14, .int .i64 a0_15, .int .i64 a0_16, .int .i64 a0_17]) (t := 84) ?hr ?_; (case hd => rfl); (case hg => rfl); (case hr => first | (go_simp; done) | (go_simp; rfl)); intro gb169 hg w21 hbox hb; have n0_ := Aside0.mk (below_step (by repeat (first | (with_reducible first | exact HB.out | apply below_alloc | apply pw_below_drewN | apply below_drew1) | exact HB.out)) hb); have n1_ := Aside0.mk (hbox); have n2_ := Aside0.mk ((by rw [hg]; exact (below_size (by repeat (first | (with_reducible first | exact HB.out | apply below_alloc | apply pw_below_drewN | apply below_drew1) | exact HB.out))) : w.heap.size ≤ gb169)); have n3_ := Aside0.mk ((by rw [hg]; exact (below_size (by repeat (first | (with_reducible first | exact HB.out | apply below_alloc | apply pw_below_drewN | apply below_drew1) | exact HB.out))) : w.heap.size ≤ gb169)); clear HB; have HB := n0_; have BK169 := n1_; have GW169 := n2_; have GE169 := n3_; clear n0_ n1_ n2_ n3_; clear hb hbox hg; have hcz22_0 : w21.cell? ⟨gb169, 0, none⟩ = some (.int .i64 a0_0) := (blk_cell BK169.out 0).trans rfl; have hcz22_1 : w21.cell? ⟨gb169, 1, none⟩ = some (.int .i64 a0_1) := (blk_cell BK169.out 1).trans rfl; have hcz22_2 : w21.cell? ⟨gb169, 2, none⟩ = some (.int .i64 a0_2) := (blk_cell BK169.out 2).trans rfl; have hcz22_3 : w21.cell? ⟨gb169, 3, none⟩ = some (.int .i64 a0_3) := (blk_cell BK169.out 3).trans rfl; have hcz22_4 : w21.cell? ⟨gb169, 4, none⟩ = some (.int .i64 a0_4) := (blk_cell BK169.out 4).trans rfl; have hcz22_5 : w21.cell? ⟨gb169, 5, none⟩ = some (.int .i64 a0_5) := (blk_cell BK169.out 5).trans rfl; have hcz22_6 : w21.cell? ⟨gb169, 6, none⟩ = some (.int .i64 a0_6) := (blk_cell BK169.out 6).trans rfl; have hcz22_7 : w21.cell? ⟨gb169, 7, none⟩ = some (.int .i64 a0_7) := (blk_cell BK169.out 7).trans rfl; have hcz22_8 : w21.cell? ⟨gb169, 8, none⟩ = some (.int .i64 a0_8) := (blk_cell BK169.out 8).trans rfl; have hcz22_9 : w21.cell? ⟨gb169, 9, none⟩ = some (.int .i64 a0_9) := (blk_cell BK169.out 9).trans rfl; have hcz22_10 : w21.cell? ⟨gb169, 10, none⟩ = some (.int .i64 a0_10) := (blk_cell BK169.out 10).trans rfl; have hcz22_11 : w21.cell? ⟨gb169, 11, none⟩ = some (.int .i64 a0_11) := (blk_cell BK169.out 11).trans rfl; have hcz22_12 : w21.cell? ⟨gb169, 12, none⟩ = some (.int .i64 a0_12) := (blk_cell BK169.out 12).trans rfl; have hcz22_13 : w21.cell? ⟨gb169, 13, none⟩ = some (.int .i64 a0_13) := (blk_cell BK169.out 13).trans rfl; have hcz22_14 : w21.cell? ⟨gb169, 14, none⟩ = some (.int .i64 a0_14) := (blk_cell BK169.out 14).trans rfl; have hcz22_15 : w21.cell? ⟨gb169, 15, none⟩ = some (.int .i64 a0_15) := (blk_cell BK169.out 15).trans rfl; have hcz22_16 : w21.cell? ⟨gb169, 16, none⟩ = some (.int .i64 a0_16) := (blk_cell BK169.out 16).trans rfl; have hcz22_17 : w21.cell? ⟨gb169, 17, none⟩ = some (.int .i64 a0_17) := (blk_cell BK169.out 17).trans rfl; have hfz22_0 := blk_frozen BK169.out 0; have hfz22_1 := blk_frozen BK169.out 1; have hfz22_2 := blk_frozen BK169.out 2; have hfz22_3 := blk_frozen BK169.out 3; have hfz22_4 := blk_frozen BK169.out 4; have hfz22_5 := blk_frozen BK169.out 5; have hfz22_6 := blk_frozen BK169.out 6; have hfz22_7 := blk_frozen BK169.out 7; have hfz22_8 := blk_frozen BK169.out 8; have hfz22_9 := blk_frozen BK169.out 9; have hfz22_10 := blk_frozen BK169.out 10; have hfz22_11 := blk_frozen BK169.out 11; have hfz22_12 := blk_frozen BK169.out 12; have hfz22_13 := blk_frozen BK169.out 13; have hfz22_14 := blk_frozen BK169.out 14; have hfz22_15 := blk_frozen BK169.out 15; have hfz22_16 := blk_frozen BK169.out 16; have hfz22_17 := blk_frozen BK169.out 17) | ((with_reducible refine gate_callee (f := 38) rfl ?_); refine goesL_ (some 5) rfl rfl Tryz.func38 (by kernel_rfl) rfl #[.int .i64 a0_0, .int .i64 1, .int .i64 12] rfl (by (try simp only [List.map_toArray, List.map_cons, List.map_nil]); first | done | rfl | (simp only [List.length_drop, List.length_take]; rfl)) ?_; (with_reducible refine (track_isIn.calls a0_0 1 12 true _ A2.out).mono ?_); rintro e w' ⟨rfl, ⟨nd, rfl⟩⟩; refine ⟨_, rfl, ?_⟩) | (go_at_call 38; (with_reducible refine (track_isIn.calls a0_1 0 1073741824 true _ A4.out).mono ?_); rintro e w' ⟨rfl, ⟨nd, rfl⟩⟩) | (go_at_call 38; (with_reducible refine (track_isIn.calls a0_16 0 1073741824 true _ A6.out).mono ?_); rintro e w' ⟨rfl, ⟨nd, rfl⟩⟩) | (go_at_call 38; (with_reducible refine (track_isIn.calls a0_2 0 1000 true _ A8.out).mono ?_); rintro e w' ⟨rfl, ⟨nd, rfl⟩⟩) | (go_at_call 38; (with_reducible refine (track_isIn.calls a0_4 0 1000 true _ A10.out).mono ?_); rintro e w' ⟨rfl, ⟨nd, rfl⟩⟩) | (go_at_call 38; (with_reducible refine (track_isIn.calls a0_5 0 1000 true _ A12.out).mono ?_); rintro e w' ⟨rfl, ⟨nd, rfl⟩⟩) | (go_at_call 38; (with_reducible refine (track_isIn.calls a0_3 1 1000 true _ A14.out).mono ?_); rintro e w' ⟨rfl, ⟨nd, rfl⟩⟩) | (go_at_call 39; (with_reducible refine (per_Is.calls k a0_6 a0_7 a0_8 a0_9 a0_10 true _ A16.out).mono ?_); rintro e w23 ⟨rfl, hb⟩; have n0_ := Aside0.mk (blk_below (g := gb169) (o := .cells #[.int .i64 a0_0, .int .i64 a0_1, .int .i64 a0_2, .int .i64 a0_3, .int .i64 a0_4, .int .i64 a0_5, .int .i64 a0_6, .int .i64 a0_7, .int .i64 a0_8, .int .i64 a0_9, .int .i64 a0_10, .int .i64 a0_11, .int .i64 a0_12, .int .i64 a0_13, .int .i64 a0_14, .int .i64 a0_15, .int .i64 a0_16, .int .i64 a0_17] 84 (0, 0)) (by (with_reducible repeat (first | refine blk_drewN ?_ _ | refine blk_drew ?_ | refine blk_alloc ?_ _)); exact BK169.out) hb); have n1_ := Aside0.mk (below_step (by repeat (first | (with_reducible first | exact HB.out | apply below_alloc | apply pw_below_drewN | apply below_drew1 | refine below_set ?_ GE169.out) | exact HB.out)) hb); clear BK169; clear HB; have BK169 := n0_; have HB := n1_; clear n0_ n1_; (try clear hb); (try clear hb2); (try clear hk); (try clear hi); have hcz24_0 : w23.cell? ⟨gb169, 0, none⟩ = some (.int .i64 a0_0) := (blk_cell BK169.out 0).trans rfl; have hcz24_1 : w23.cell? ⟨gb169, 1, none⟩ = some (.int .i64 a0_1) := (blk_cell BK169.out 1).trans rfl; have hcz24_2 : w23.cell? ⟨gb169, 2, none⟩ = some (.int .i64 a0_2) := (blk_cell BK169.out 2).trans rfl; have hcz24_3 : w23.cell? ⟨gb169, 3, none⟩ = some (.int .i64 a0_3) := (blk_cell BK169.out 3).trans rfl; have hcz24_4 : w23.cell? ⟨gb169, 4, none⟩ = some (.int .i64 a0_4) := (blk_cell BK169.out 4).trans rfl; have hcz24_5 : w23.cell? ⟨gb169, 5, none⟩ = some (.int .i64 a0_5) := (blk_cell BK169.out 5).trans rfl; have hcz24_6 : w23.cell? ⟨gb169, 6, none⟩ = some (.int .i64 a0_6) := (blk_cell BK169.out 6).trans rfl; have hcz24_7 : w23.cell? ⟨gb169, 7, none⟩ = some (.int .i64 a0_7) := (blk_cell BK169.out 7).trans rfl; have hcz24_8 : w23.cell? ⟨gb169, 8, none⟩ = some (.int .i64 a0_8) := (blk_cell BK169.out 8).trans rfl; have hcz24_9 : w23.cell? ⟨gb169, 9, none⟩ = some (.int .i64 a0_9) := (blk_cell BK169.out 9).trans rfl; have hcz24_10 : w23.cell? ⟨gb169, 10, none⟩ = some (.int .i64 a0_10) := (blk_cell BK169.out 10).trans rfl; have hcz24_11 : w23.cell? ⟨gb169, 11, none⟩ = some (.int .i64 a0_11) := (blk_cell BK169.out 11).trans rfl; have hcz24_12 : w23.cell? ⟨gb169, 12, none⟩ = some (.int .i64 a0_12) := (blk_cell BK169.out 12).trans rfl; have hcz24_13 : w23.cell? ⟨gb169, 13, none⟩ = some (.int .i64 a0_13) := (blk_cell BK169.out 13).trans rfl; have hcz24_14 : w23.cell? ⟨gb169, 14, none⟩ = some (.int .i64 a0_14) := (blk_cell BK169.out 14).trans rfl; have hcz24_15 : w23.cell? ⟨gb169, 15, none⟩ = some (.int .i64 a0_15) := (blk_cell BK169.out 15).trans rfl; have hcz24_16 : w23.cell? ⟨gb169, 16, none⟩ = some (.int .i64 a0_16) := (blk_cell BK169.out 16).trans rfl; have hcz24_17 : w23.cell? ⟨gb169, 17, none⟩ = some (.int .i64 a0_17) := (blk_cell BK169.out 17).trans rfl; have hfz24_0 := blk_frozen BK169.out 0; have hfz24_1 := blk_frozen BK169.out 1; have hfz24_2 := blk_frozen BK169.out 2; have hfz24_3 := blk_frozen BK169.out 3; have hfz24_4 := blk_frozen BK169.out 4; have hfz24_5 := blk_frozen BK169.out 5; have hfz24_6 := blk_frozen BK169.out 6; have hfz24_7 := blk_frozen BK169.out 7; have hfz24_8 := blk_frozen BK169.out 8; have hfz24_9 := blk_frozen BK169.out 9; have hfz24_10 := blk_frozen BK169.out 10; have hfz24_11 := blk_frozen BK169.out 11; have hfz24_12 := blk_frozen BK169.out 12; have hfz24_13 := blk_frozen BK169.out 13; have hfz24_14 := blk_frozen BK169.out 14; have hfz24_15 := blk_frozen BK169.out 15; have hfz24_16 := blk_frozen BK169.out 16; have hfz24_17 := blk_frozen BK169.out 17) | (go_at_call 39; (with_reducible refine (per_Is.calls k a0_11 a0_12 a0_13 a0_14 a0_15 true _ A18.out).mono ?_); rintro e w25 ⟨rfl, hb⟩; have n0_ := Aside0.mk (blk_below (g := gb169) (o := .cells #[.int .i64 a0_0, .int .i64 a0_1, .int .i64 a0_2, .int .i64 a0_3, .int .i64 a0_4, .int .i64 a0_5, .int .i64 a0_6, .int .i64 a0_7, .int .i64 a0_8, .int .i64 a0_9, .int .i64 a0_10, .int .i64 a0_11, .int .i64 a0_12, .int .i64 a0_13, .int .i64 a0_14, .int .i64 a0_15, .int .i64 a0_16, .int .i64 a0_17] 84 (0, 0)) (by (with_reducible repeat (first | refine blk_drewN ?_ _ | refine blk_drew ?_ | refine blk_alloc ?_ _)); exact BK169.out) hb); have n1_ := Aside0.mk (below_step (by repeat (first | (with_reducible first | exact HB.out | apply below_alloc | apply pw_below_drewN | apply below_drew1 | refine below_set ?_ GE169.out) | exact HB.out)) hb); clear BK169; clear HB; have BK169 := n0_; have HB := n1_; clear n0_ n1_; (try clear hb); (try clear hb2); (try clear hk); (try clear hi); have hcz26_0 : w25.cell? ⟨gb169, 0, none⟩ = some (.int .i64 a0_0) := (blk_cell BK169.out 0).trans rfl; have hcz26_1 : w25.cell? ⟨gb169, 1, none⟩ = some (.int .i64 a0_1) := (blk_cell BK169.out 1).trans rfl; have hcz26_2 : w25.cell? ⟨gb169, 2, none⟩ = some (.int .i64 a0_2) := (blk_cell BK169.out 2).trans rfl; have hcz26_3 : w25.cell? ⟨gb169, 3, none⟩ = some (.int .i64 a0_3) := (blk_cell BK169.out 3).trans rfl; have hcz26_4 : w25.cell? ⟨gb169, 4, none⟩ = some (.int .i64 a0_4) := (blk_cell BK169.out 4).trans rfl; have hcz26_5 : w25.cell? ⟨gb169, 5, none⟩ = some (.int .i64 a0_5) := (blk_cell BK169.out 5).trans rfl; have hcz26_6 : w25.cell? ⟨gb169, 6, none⟩ = some (.int .i64 a0_6) := (blk_cell BK169.out 6).trans rfl; have hcz26_7 : w25.cell? ⟨gb169, 7, none⟩ = some (.int .i64 a0_7) := (blk_cell BK169.out 7).trans rfl; have hcz26_8 : w25.cell? ⟨gb169, 8, none⟩ = some (.int .i64 a0_8) := (blk_cell BK169.out 8).trans rfl; have hcz26_9 : w25.cell? ⟨gb169, 9, none⟩ = some (.int .i64 a0_9) := (blk_cell BK169.out 9).trans rfl; have hcz26_10 : w25.cell? ⟨gb169, 10, none⟩ = some (.int .i64 a0_10) := (blk_cell BK169.out 10).trans rfl; have hcz26_11 : w25.cell? ⟨gb169, 11, none⟩ = some (.int .i64 a0_11) := (blk_cell BK169.out 11).trans rfl; have hcz26_12 : w25.cell? ⟨gb169, 12, none⟩ = some (.int .i64 a0_12) := (blk_cell BK169.out 12).trans rfl; have hcz26_13 : w25.cell? ⟨gb169, 13, none⟩ = some (.int .i64 a0_13) := (blk_cell BK169.out 13).trans rfl; have hcz26_14 : w25.cell? ⟨gb169, 14, none⟩ = some (.int .i64 a0_14) := (blk_cell BK169.out 14).trans rfl; have hcz26_15 : w25.cell? ⟨gb169, 15, none⟩ = some (.int .i64 a0_15) := (blk_cell BK169.out 15).trans rfl; have hcz26_16 : w25.cell? ⟨gb169, 16, none⟩ = some (.int .i64 a0_16) := (blk_cell BK169.out 16).trans rfl; have hcz26_17 : w25.cell? ⟨gb169, 17, none⟩ = some (.int .i64 a0_17) := (blk_cell BK169.out 17).trans rfl; have hfz26_0 := blk_frozen BK169.out 0; have hfz26_1 := blk_frozen BK169.out 1; have hfz26_2 := blk_frozen BK169.out 2; have hfz26_3 := blk_frozen BK169.out 3; have hfz26_4 := blk_frozen BK169.out 4; have hfz26_5 := blk_frozen BK169.out 5; have hfz26_6 := blk_frozen BK169.out 6; have hfz26_7 := blk_frozen BK169.out 7; have hfz26_8 := blk_frozen BK169.out 8; have hfz26_9 := blk_frozen BK169.out 9; have hfz26_10 := blk_frozen BK169.out 10; have hfz26_11 := blk_frozen BK169.out 11; have hfz26_12 := blk_frozen BK169.out 12; have hfz26_13 := blk_frozen BK169.out 13; have hfz26_14 := blk_frozen BK169.out 14; have hfz26_15 := blk_frozen BK169.out 15; have hfz26_16 := blk_frozen BK169.out 16; have hfz26_17 := blk_frozen BK169.out 17) | (go_at_call 38; (with_reducible refine (track_isIn.calls a0_17 0 2 t179 _ A20.out).mono ?_); rintro e w' ⟨rfl, ⟨nd, rfl⟩⟩))
                    go_ret
                    exact ⟨by first | rfl | (simp [errW_none, errW_some] <;> rfl) | (simp [*, errW_none, errW_some] <;> rfl), by repeat (first | (with_reducible first | exact HB.out | apply below_alloc | apply pw_below_drewN | apply below_drew1 | refine below_set ?_ GE169.out) | exact HB.out)⟩
                  · replace c19 := Bool.eq_false_iff.mpr c19
                    subst c19
                    have H1 : (some false) = some r := by rw [if_neg (show ¬ (false = true) by decide)] at H; exact H
                    clear H
                    have H := H1
                    clear H1
                    obtain rfl := Option.some.inj H
                    go_enter Tryz.func25, Tryz.ntmps25
                    go_wp2_with (first | ((with_reducible refine gate_dst (N := 1) rfl ?_); refine box_event ?hg (N := 1) ?hd (cs := #[.int .i64 a0_0, .int .i64 a0_1, .int .i64 a0_2, .int .i64 a0_3, .int .i64 a0_4, .int .i64 a0_5, .int .i64 a0_6, .int .i64 a0_7, .int .i64 a0_8, .int .i64 a0_9, .int .i64 a0_10, .int .i64 a0_11, .int .i64 a0_12, .int .i64 a0_13, .int .i64 a0_14, .int .i64 a0_15, .int .i64 a0_16, .int .i64 a0_17]) (t := 84) ?hr ?_; (case hd => rfl); (case hg => rfl); (case hr => first | (go_simp; done) | (go_simp; rfl)); intro gb169 hg w27 hbox hb; have n0_ := Aside0.mk (below_step (by repeat (first | (with_reducible first | exact HB.out | apply below_alloc | apply pw_below_drewN | apply below_drew1) | exact HB.out)) hb); have n1_ := Aside0.mk (hbox); have n2_ := Aside0.mk ((by rw [hg]; exact (below_size (by repeat (first | (with_reducible first | exact HB.out | apply below_alloc | apply pw_below_drewN | apply below_drew1) | exact HB.out))) : w.heap.size ≤ gb169)); have n3_ := Aside0.mk ((by rw [hg]; exact (below_size (by repeat (first | (with_reducible first | exact HB.out | apply below_alloc | apply pw_below_drewN | apply below_drew1) | exact HB.out))) : w.heap.size ≤ gb169)); clear HB; have HB := n0_; have BK169 := n1_; have GW169 := n2_; have GE169 := n3_; clear n0_ n1_ n2_ n3_; clear hb hbox hg; have hcz28_0 : w27.cell? ⟨gb169, 0, none⟩ = some (.int .i64 a0_0) := (blk_cell BK169.out 0).trans rfl; have hcz28_1 : w27.cell? ⟨gb169, 1, none⟩ = some (.int .i64 a0_1) := (blk_cell BK169.out 1).trans rfl; have hcz28_2 : w27.cell? ⟨gb169, 2, none⟩ = some (.int .i64 a0_2) := (blk_cell BK169.out 2).trans rfl; have hcz28_3 : w27.cell? ⟨gb169, 3, none⟩ = some (.int .i64 a0_3) := (blk_cell BK169.out 3).trans rfl; have hcz28_4 : w27.cell? ⟨gb169, 4, none⟩ = some (.int .i64 a0_4) := (blk_cell BK169.out 4).trans rfl; have hcz28_5 : w27.cell? ⟨gb169, 5, none⟩ = some (.int .i64 a0_5) := (blk_cell BK169.out 5).trans rfl; have hcz28_6 : w27.cell? ⟨gb169, 6, none⟩ = some (.int .i64 a0_6) := (blk_cell BK169.out 6).trans rfl; have hcz28_7 : w27.cell? ⟨gb169, 7, none⟩ = some (.int .i64 a0_7) := (blk_cell BK169.out 7).trans rfl; have hcz28_8 : w27.cell? ⟨gb169, 8, none⟩ = some (.int .i64 a0_8) := (blk_cell BK169.out 8).trans rfl; have hcz28_9 : w27.cell? ⟨gb169, 9, none⟩ = some (.int .i64 a0_9) := (blk_cell BK169.out 9).trans rfl; have hcz28_10 : w27.cell? ⟨gb169, 10, none⟩ = some (.int .i64 a0_10) := (blk_cell BK169.out 10).trans rfl; have hcz28_11 : w27.cell? ⟨gb169, 11, none⟩ = some (.int .i64 a0_11) := (blk_cell BK169.out 11).trans rfl; have hcz28_12 : w27.cell? ⟨gb169, 12, none⟩ = some (.int .i64 a0_12) := (blk_cell BK169.out 12).trans rfl; have hcz28_13 : w27.cell? ⟨gb169, 13, none⟩ = some (.int .i64 a0_13) := (blk_cell BK169.out 13).trans rfl; have hcz28_14 : w27.cell? ⟨gb169, 14, none⟩ = some (.int .i64 a0_14) := (blk_cell BK169.out 14).trans rfl; have hcz28_15 : w27.cell? ⟨gb169, 15, none⟩ = some (.int .i64 a0_15) := (blk_cell BK169.out 15).trans rfl; have hcz28_16 : w27.cell? ⟨gb169, 16, none⟩ = some (.int .i64 a0_16) := (blk_cell BK169.out 16).trans rfl; have hcz28_17 : w27.cell? ⟨gb169, 17, none⟩ = some (.int .i64 a0_17) := (blk_cell BK169.out 17).trans rfl; have hfz28_0 := blk_frozen BK169.out 0; have hfz28_1 := blk_frozen BK169.out 1; have hfz28_2 := blk_frozen BK169.out 2; have hfz28_3 := blk_frozen BK169.out 3; have hfz28_4 := blk_frozen BK169.out 4; have hfz28_5 := blk_frozen BK169.out 5; have hfz28_6 := blk_frozen BK169.out 6; have hfz28_7 := blk_frozen BK169.out 7; have hfz28_8 := blk_frozen BK169.out 8; have hfz28_9 := blk_frozen BK169.out 9; have hfz28_10 := blk_frozen BK169.out 10; have hfz28_11 := blk_frozen BK169.out 11; have hfz28_12 := blk_frozen BK169.out 12; have hfz28_13 := blk_frozen BK169.out 13; have hfz28_14 := blk_frozen BK169.out 14; have hfz28_15 := blk_frozen BK169.out 15; have hfz28_16 := blk_frozen BK169.out 16; have hfz28_17 := blk_frozen BK169.out 17) | ((with_reducible refine gate_callee (f := 38) rfl ?_); refine goesL_ (some 5) rfl rfl Tryz.func38 (by kernel_rfl) rfl #[.int .i64 a0_0, .int .i64 1, .int .i64 12] rfl (by (try simp only [List.map_toArray, List.map_cons, List.map_nil]); first | done | rfl | (simp only [List.length_drop, List.length_take]; rfl)) ?_; (with_reducible refine (track_isIn.calls a0_0 1 12 true _ A2.out).mono ?_); rintro e w' ⟨rfl, ⟨nd, rfl⟩⟩; refine ⟨_, rfl, ?_⟩) | (go_at_call 38; (with_reducible refine (track_isIn.calls a0_1 0 1073741824 true _ A4.out).mono ?_); rintro e w' ⟨rfl, ⟨nd, rfl⟩⟩) | (go_at_call 38; (with_reducible refine (track_isIn.calls a0_16 0 1073741824 true _ A6.out).mono ?_); rintro e w' ⟨rfl, ⟨nd, rfl⟩⟩) | (go_at_call 38; (with_reducible refine (track_isIn.calls a0_2 0 1000 true _ A8.out).mono ?_); rintro e w' ⟨rfl, ⟨nd, rfl⟩⟩) | (go_at_call 38; (with_reducible refine (track_isIn.calls a0_4 0 1000 true _ A10.out).mono ?_); rintro e w' ⟨rfl, ⟨nd, rfl⟩⟩) | (go_at_call 38; (with_reducible refine (track_isIn.calls a0_5 0 1000 true _ A12.out).mono ?_); rintro e w' ⟨rfl, ⟨nd, rfl⟩⟩) | (go_at_call 38; (with_reducible refine (track_isIn.calls a0_3 1 1000 true _ A14.out).mono ?_); rintro e w' ⟨rfl, ⟨nd, rfl⟩⟩) | (go_at_call 39; (with_reducible refine (per_Is.calls k a0_6 a0_7 a0_8 a0_9 a0_10 true _ A16.out).mono ?_); rintro e w29 ⟨rfl, hb⟩; have n0_ := Aside0.mk (blk_below (g := gb169) (o := .cells #[.int .i64 a0_0, .int .i64 a0_1, .int .i64 a0_2, .int .i64 a0_3, .int .i64 a0_4, .int .i64 a0_5, .int .i64 a0_6, .int .i64 a0_7, .int .i64 a0_8, .int .i64 a0_9, .int .i64 a0_10, .int .i64 a0_11, .int .i64 a0_12, .int .i64 a0_13, .int .i64 a0_14, .int .i64 a0_15, .int .i64 a0_16, .int .i64 a0_17] 84 (0, 0)) (by (with_reducible repeat (first | refine blk_drewN ?_ _ | refine blk_drew ?_ | refine blk_alloc ?_ _)); exact BK169.out) hb); have n1_ := Aside0.mk (below_step (by repeat (first | (with_reducible first | exact HB.out | apply below_alloc | apply pw_below_drewN | apply below_drew1 | refine below_set ?_ GE169.out) | exact HB.out)) hb); clear BK169; clear HB; have BK169 := n0_; have HB := n1_; clear n0_ n1_; (try clear hb); (try clear hb2); (try clear hk); (try clear hi); have hcz30_0 : w29.cell? ⟨gb169, 0, none⟩ = some (.int .i64 a0_0) := (blk_cell BK169.out 0).trans rfl; have hcz30_1 : w29.cell? ⟨gb169, 1, none⟩ = some (.int .i64 a0_1) := (blk_cell BK169.out 1).trans rfl; have hcz30_2 : w29.cell? ⟨gb169, 2, none⟩ = some (.int .i64 a0_2) := (blk_cell BK169.out 2).trans rfl; have hcz30_3 : w29.cell? ⟨gb169, 3, none⟩ = some (.int .i64 a0_3) := (blk_cell BK169.out 3).trans rfl; have hcz30_4 : w29.cell? ⟨gb169, 4, none⟩ = some (.int .i64 a0_4) := (blk_cell BK169.out 4).trans rfl; have hcz30_5 : w29.cell? ⟨gb169, 5, none⟩ = some (.int .i64 a0_5) := (blk_cell BK169.out 5).trans rfl; have hcz30_6 : w29.cell? ⟨gb169, 6, none⟩ = some (.int .i64 a0_6) := (blk_cell BK169.out 6).trans rfl; have hcz30_7 : w29.cell? ⟨gb169, 7, none⟩ = some (.int .i64 a0_7) := (blk_cell BK169.out 7).trans rfl; have hcz30_8 : w29.cell? ⟨gb169, 8, none⟩ = some (.int .i64 a0_8) := (blk_cell BK169.out 8).trans rfl; have hcz30_9 : w29.cell? ⟨gb169, 9, none⟩ = some (.int .i64 a0_9) := (blk_cell BK169.out 9).trans rfl; have hcz30_10 : w29.cell? ⟨gb169, 10, none⟩ = some (.int .i64 a0_10) := (blk_cell BK169.out 10).trans rfl; have hcz30_11 : w29.cell? ⟨gb169, 11, none⟩ = some (.int .i64 a0_11) := (blk_cell BK169.out 11).trans rfl; have hcz30_12 : w29.cell? ⟨gb169, 12, none⟩ = some (.int .i64 a0_12) := (blk_cell BK169.out 12).trans rfl; have hcz30_13 : w29.cell? ⟨gb169, 13, none⟩ = some (.int .i64 a0_13) := (blk_cell BK169.out 13).trans rfl; have hcz30_14 : w29.cell? ⟨gb169, 14, none⟩ = some (.int .i64 a0_14) := (blk_cell BK169.out 14).trans rfl; have hcz30_15 : w29.cell? ⟨gb169, 15, none⟩ = some (.int .i64 a0_15) := (blk_cell BK169.out 15).trans rfl; have hcz30_16 : w29.cell? ⟨gb169, 16, none⟩ = some (.int .i64 a0_16) := (blk_cell BK169.out 16).trans rfl; have hcz30_17 : w29.cell? ⟨gb169, 17, none⟩ = some (.int .i64 a0_17) := (blk_cell BK169.out 17).trans rfl; have hfz30_0 := blk_frozen BK169.out 0; have hfz30_1 := blk_frozen BK169.out 1; have hfz30_2 := blk_frozen BK169.out 2; have hfz30_3 := blk_frozen BK169.out 3; have hfz30_4 := blk_frozen BK169.out 4; have hfz30_5 := blk_frozen BK169.out 5; have hfz30_6 := blk_frozen BK169.out 6; have hfz30_7 := blk_frozen BK169.out 7; have hfz30_8 := blk_frozen BK169.out 8; have hfz30_9 := blk_frozen BK169.out 9; have hfz30_10 := blk_frozen BK169.out 10; have hfz30_11 := blk_frozen BK169.out 11; have hfz30_12 := blk_frozen BK169.out 12; have hfz30_13 := blk_frozen BK169.out 13; have hfz30_14 := blk_frozen BK169.out 14; have hfz30_15 := blk_frozen BK169.out 15; have hfz30_16 := blk_frozen BK169.out 16; have hfz30_17 := blk_frozen BK169.out 17) | (go_at_call 39; (with_reducible refine (per_Is.calls k a0_11 a0_12 a0_13 a0_14 a0_15 false _ A18.out).mono ?_); rintro e w31 ⟨rfl, hb⟩; have n0_ := Aside0.mk (blk_below (g := gb169) (o := .cells #[.int .i64 a0_0, .int .i64 a0_1, .int .i64 a0_2, .int .i64 a0_3, .int .i64 a0_4, .int .i64 a0_5, .int .i64 a0_6, .int .i64 a0_7, .int .i64 a0_8, .int .i64 a0_9, .int .i64 a0_10, .int .i64 a0_11, .int .i64 a0_12, .int .i64 a0_13, .int .i64 a0_14, .int .i64 a0_15, .int .i64 a0_16, .int .i64 a0_17] 84 (0, 0)) (by (with_reducible repeat (first | refine blk_drewN ?_ _ | refine blk_drew ?_ | refine blk_alloc ?_ _)); exact BK169.out) hb); have n1_ := Aside0.mk (below_step (by repeat (first | (with_reducible first | exact HB.out | apply below_alloc | apply pw_below_drewN | apply below_drew1 | refine below_set ?_ GE169.out) | exact HB.out)) hb); clear BK169; clear HB; have BK169 := n0_; have HB := n1_; clear n0_ n1_; (try clear hb); (try clear hb2); (try clear hk); (try clear hi)))
                    go_ret
                    exact ⟨by first | rfl | (simp [errW_none, errW_some] <;> rfl) | (simp [*, errW_none, errW_some] <;> rfl), by repeat (first | (with_reducible first | exact HB.out | apply below_alloc | apply pw_below_drewN | apply below_drew1 | refine below_set ?_ GE169.out) | exact HB.out)⟩
                · replace c17 := Bool.eq_false_iff.mpr c17
                  subst c17
                  have H1 : (some false) = some r := by rw [if_neg (show ¬ (false = true) by decide)] at H; exact H
                  clear H
                  have H := H1
                  clear H1
                  obtain rfl := Option.some.inj H
                  go_enter Tryz.func25, Tryz.ntmps25
                  go_wp2_with (first | ((with_reducible refine gate_dst (N := 1) rfl ?_); refine box_event ?hg (N := 1) ?hd (cs := #[.int .i64 a0_0, .int .i64 a0_1, .int .i64 a0_2, .int .i64 a0_3, .int .i64 a0_4, .int .i64 a0_5, .int .i64 a0_6, .int .i64 a0_7, .int .i64 a0_8, .int .i64 a0_9, .int .i64 a0_10, .int .i64 a0_11, .int .i64 a0_12, .int .i64 a0_13, .int .i64 a0_14, .int .i64 a0_15, .int .i64 a0_16, .int .i64 a0_17]) (t := 84) ?hr ?_; (case hd => rfl); (case hg => rfl); (case hr => first | (go_simp; done) | (go_simp; rfl)); intro gb169 hg w32 hbox hb; have n0_ := Aside0.mk (below_step (by repeat (first | (with_reducible first | exact HB.out | apply below_alloc | apply pw_below_drewN | apply below_drew1) | exact HB.out)) hb); have n1_ := Aside0.mk (hbox); have n2_ := Aside0.mk ((by rw [hg]; exact (below_size (by repeat (first | (with_reducible first | exact HB.out | apply below_alloc | apply pw_below_drewN | apply below_drew1) | exact HB.out))) : w.heap.size ≤ gb169)); have n3_ := Aside0.mk ((by rw [hg]; exact (below_size (by repeat (first | (with_reducible first | exact HB.out | apply below_alloc | apply pw_below_drewN | apply below_drew1) | exact HB.out))) : w.heap.size ≤ gb169)); clear HB; have HB := n0_; have BK169 := n1_; have GW169 := n2_; have GE169 := n3_; clear n0_ n1_ n2_ n3_; clear hb hbox hg; have hcz33_0 : w32.cell? ⟨gb169, 0, none⟩ = some (.int .i64 a0_0) := (blk_cell BK169.out 0).trans rfl; have hcz33_1 : w32.cell? ⟨gb169, 1, none⟩ = some (.int .i64 a0_1) := (blk_cell BK169.out 1).trans rfl; have hcz33_2 : w32.cell? ⟨gb169, 2, none⟩ = some (.int .i64 a0_2) := (blk_cell BK169.out 2).trans rfl; have hcz33_3 : w32.cell? ⟨gb169, 3, none⟩ = some (.int .i64 a0_3) := (blk_cell BK169.out 3).trans rfl; have hcz33_4 : w32.cell? ⟨gb169, 4, none⟩ = some (.int .i64 a0_4) := (blk_cell BK169.out 4).trans rfl; have hcz33_5 : w32.cell? ⟨gb169, 5, none⟩ = some (.int .i64 a0_5) := (blk_cell BK169.out 5).trans rfl; have hcz33_6 : w32.cell? ⟨gb169, 6, none⟩ = some (.int .i64 a0_6) := (blk_cell BK169.out 6).trans rfl; have hcz33_7 : w32.cell? ⟨gb169, 7, none⟩ = some (.int .i64 a0_7) := (blk_cell BK169.out 7).trans rfl; have hcz33_8 : w32.cell? ⟨gb169, 8, none⟩ = some (.int .i64 a0_8) := (blk_cell BK169.out 8).trans rfl; have hcz33_9 : w32.cell? ⟨gb169, 9, none⟩ = some (.int .i64 a0_9) := (blk_cell BK169.out 9).trans rfl; have hcz33_10 : w32.cell? ⟨gb169, 10, none⟩ = some (.int .i64 a0_10) := (blk_cell BK169.out 10).trans rfl; have hcz33_11 : w32.cell? ⟨gb169, 11, none⟩ = some (.int .i64 a0_11) := (blk_cell BK169.out 11).trans rfl; have hcz33_12 : w32.cell? ⟨gb169, 12, none⟩ = some (.int .i64 a0_12) := (blk_cell BK169.out 12).trans rfl; have hcz33_13 : w32.cell? ⟨gb169, 13, none⟩ = some (.int .i64 a0_13) := (blk_cell BK169.out 13).trans rfl; have hcz33_14 : w32.cell? ⟨gb169, 14, none⟩ = some (.int .i64 a0_14) := (blk_cell BK169.out 14).trans rfl; have hcz33_15 : w32.cell? ⟨gb169, 15, none⟩ = some (.int .i64 a0_15) := (blk_cell BK169.out 15).trans rfl; have hcz33_16 : w32.cell? ⟨gb169, 16, none⟩ = some (.int .i64 a0_16) := (blk_cell BK169.out 16).trans rfl; have hcz33_17 : w32.cell? ⟨gb169, 17, none⟩ = some (.int .i64 a0_17) := (blk_cell BK169.out 17).trans rfl; have hfz33_0 := blk_frozen BK169.out 0; have hfz33_1 := blk_frozen BK169.out 1; have hfz33_2 := blk_frozen BK169.out 2; have hfz33_3 := blk_frozen BK169.out 3; have hfz33_4 := blk_frozen BK169.out 4; have hfz33_5 := blk_frozen BK169.out 5; have hfz33_6 := blk_frozen BK169.out 6; have hfz33_7 := blk_frozen BK169.out 7; have hfz33_8 := blk_frozen BK169.out 8; have hfz33_9 := blk_frozen BK169.out 9; have hfz33_10 := blk_frozen BK169.out 10; have hfz33_11 := blk_frozen BK169.out 11; have hfz33_12 := blk_frozen BK169.out 12; have hfz33_13 := blk_frozen BK169.out 13; have hfz33_14 := blk_frozen BK169.out 14; have hfz33_15 := blk_frozen BK169.out 15; have hfz33_16 := blk_frozen BK169.out 16; have hfz33_17 := blk_frozen BK169.out 17) | ((with_reducible refine gate_callee (f := 38) rfl ?_); refine goesL_ (some 5) rfl rfl Tryz.func38 (by kernel_rfl) rfl #[.int .i64 a0_0, .int .i64 1, .int .i64 12] rfl (by (try simp only [List.map_toArray, List.map_cons, List.map_nil]); first | done | rfl | (simp only [List.length_drop, List.length_take]; rfl)) ?_; (with_reducible refine (track_isIn.calls a0_0 1 12 true _ A2.out).mono ?_); rintro e w' ⟨rfl, ⟨nd, rfl⟩⟩; refine ⟨_, rfl, ?_⟩) | (go_at_call 38; (with_reducible refine (track_isIn.calls a0_1 0 1073741824 true _ A4.out).mono ?_); rintro e w' ⟨rfl, ⟨nd, rfl⟩⟩) | (go_at_call 38; (with_reducible refine (track_isIn.calls a0_16 0 1073741824 true _ A6.out).mono ?_); rintro e w' ⟨rfl, ⟨nd, rfl⟩⟩) | (go_at_call 38; (with_reducible refine (track_isIn.calls a0_2 0 1000 true _ A8.out).mono ?_); rintro e w' ⟨rfl, ⟨nd, rfl⟩⟩) | (go_at_call 38; (with_reducible refine (track_isIn.calls a0_4 0 1000 true _ A10.out).mono ?_); rintro e w' ⟨rfl, ⟨nd, rfl⟩⟩) | (go_at_call 38; (with_reducible refine (track_isIn.calls a0_5 0 1000 true _ A12.out).mono ?_); rintro e w' ⟨rfl, ⟨nd, rfl⟩⟩) | (go_at_call 38; (with_reducible refine (track_isIn.calls a0_3 1 1000 true _ A14.out).mono ?_); rintro e w' ⟨rfl, ⟨nd, rfl⟩⟩) | (go_at_call 39; (with_reducible refine (per_Is.calls k a0_6 a0_7 a0_8 a0_9 a0_10 false _ A16.out).mono ?_); rintro e w34 ⟨rfl, hb⟩; have n0_ := Aside0.mk (blk_below (g := gb169) (o := .cells #[.int .i64 a0_0, .int .i64 a0_1, .int .i64 a0_2, .int .i64 a0_3, .int .i64 a0_4, .int .i64 a0_5, .int .i64 a0_6, .int .i64 a0_7, .int .i64 a0_8, .int .i64 a0_9, .int .i64 a0_10, .int .i64 a0_11, .int .i64 a0_12, .int .i64 a0_13, .int .i64 a0_14, .int .i64 a0_15, .int .i64 a0_16, .int .i64 a0_17] 84 (0, 0)) (by (with_reducible repeat (first | refine blk_drewN ?_ _ | refine blk_drew ?_ | refine blk_alloc ?_ _)); exact BK169.out) hb); have n1_ := Aside0.mk (below_step (by repeat (first | (with_reducible first | exact HB.out | apply below_alloc | apply pw_below_drewN | apply below_drew1 | refine below_set ?_ GE169.out) | exact HB.out)) hb); clear BK169; clear HB; have BK169 := n0_; have HB := n1_; clear n0_ n1_; (try clear hb); (try clear hb2); (try clear hk); (try clear hi)))
                  go_ret
                  exact ⟨by first | rfl | (simp [errW_none, errW_some] <;> rfl) | (simp [*, errW_none, errW_some] <;> rfl), by repeat (first | (with_reducible first | exact HB.out | apply below_alloc | apply pw_below_drewN | apply below_drew1 | refine below_set ?_ GE169.out) | exact HB.out)⟩
              · replace c15 := Bool.eq_false_iff.mpr c15
                subst c15
                have H1 : (some false) = some r := by rw [if_neg (show ¬ (false = true) by decide)] at H; exact H
                clear H
                have H := H1
                clear H1
                obtain rfl := Option.some.inj H
                go_enter Tryz.func25, Tryz.ntmps25
                go_wp2_with (first | ((with_reducible refine gate_dst (N := 1) rfl ?_); refine box_event ?hg (N := 1) ?hd (cs := #[.int .i64 a0_0, .int .i64 a0_1, .int .i64 a0_2, .int .i64 a0_3, .int .i64 a0_4, .int .i64 a0_5, .int .i64 a0_6, .int .i64 a0_7, .int .i64 a0_8, .int .i64 a0_9, .int .i64 a0_10, .int .i64 a0_11, .int .i64 a0_12, .int .i64 a0_13, .int .i64 a0_14, .int .i64 a0_15, .int .i64 a0_16, .int .i64 a0_17]) (t := 84) ?hr ?_; (case hd => rfl); (case hg => rfl); (case hr => first | (go_simp; done) | (go_simp; rfl)); intro gb169 hg w35 hbox hb; have n0_ := Aside0.mk (below_step (by repeat (first | (with_reducible first | exact HB.out | apply below_alloc | apply pw_below_drewN | apply below_drew1) | exact HB.out)) hb); have n1_ := Aside0.mk (hbox); have n2_ := Aside0.mk ((by rw [hg]; exact (below_size (by repeat (first | (with_reducible first | exact HB.out | apply below_alloc | apply pw_below_drewN | apply below_drew1) | exact HB.out))) : w.heap.size ≤ gb169)); have n3_ := Aside0.mk ((by rw [hg]; exact (below_size (by repeat (first | (with_reducible first | exact HB.out | apply below_alloc | apply pw_below_drewN | apply below_drew1) | exact HB.out))) : w.heap.size ≤ gb169)); clear HB; have HB := n0_; have BK169 := n1_; have GW169 := n2_; have GE169 := n3_; clear n0_ n1_ n2_ n3_; clear hb hbox hg; have hcz36_0 : w35.cell? ⟨gb169, 0, none⟩ = some (.int .i64 a0_0) := (blk_cell BK169.out 0).trans rfl; have hcz36_1 : w35.cell? ⟨gb169, 1, none⟩ = some (.int .i64 a0_1) := (blk_cell BK169.out 1).trans rfl; have hcz36_2 : w35.cell? ⟨gb169, 2, none⟩ = some (.int .i64 a0_2) := (blk_cell BK169.out 2).trans rfl; have hcz36_3 : w35.cell? ⟨gb169, 3, none⟩ = some (.int .i64 a0_3) := (blk_cell BK169.out 3).trans rfl; have hcz36_4 : w35.cell? ⟨gb169, 4, none⟩ = some (.int .i64 a0_4) := (blk_cell BK169.out 4).trans rfl; have hcz36_5 : w35.cell? ⟨gb169, 5, none⟩ = some (.int .i64 a0_5) := (blk_cell BK169.out 5).trans rfl; have hcz36_6 : w35.cell? ⟨gb169, 6, none⟩ = some (.int .i64 a0_6) := (blk_cell BK169.out 6).trans rfl; have hcz36_7 : w35.cell? ⟨gb169, 7, none⟩ = some (.int .i64 a0_7) := (blk_cell BK169.out 7).trans rfl; have hcz36_8 : w35.cell? ⟨gb169, 8, none⟩ = some (.int .i64 a0_8) := (blk_cell BK169.out 8).trans rfl; have hcz36_9 : w35.cell? ⟨gb169, 9, none⟩ = some (.int .i64 a0_9) := (blk_cell BK169.out 9).trans rfl; have hcz36_10 : w35.cell? ⟨gb169, 10, none⟩ = some (.int .i64 a0_10) := (blk_cell BK169.out 10).trans rfl; have hcz36_11 : w35.cell? ⟨gb169, 11, none⟩ = some (.int .i64 a0_11) := (blk_cell BK169.out 11).trans rfl; have hcz36_12 : w35.cell? ⟨gb169, 12, none⟩ = some (.int .i64 a0_12) := (blk_cell BK169.out 12).trans rfl; have hcz36_13 : w35.cell? ⟨gb169, 13, none⟩ = some (.int .i64 a0_13) := (blk_cell BK169.out 13).trans rfl; have hcz36_14 : w35.cell? ⟨gb169, 14, none⟩ = some (.int .i64 a0_14) := (blk_cell BK169.out 14).trans rfl; have hcz36_15 : w35.cell? ⟨gb169, 15, none⟩ = some (.int .i64 a0_15) := (blk_cell BK169.out 15).trans rfl; have hcz36_16 : w35.cell? ⟨gb169, 16, none⟩ = some (.int .i64 a0_16) := (blk_cell BK169.out 16).trans rfl; have hcz36_17 : w35.cell? ⟨gb169, 17, none⟩ = some (.int .i64 a0_17) := (blk_cell BK169.out 17).trans rfl; have hfz36_0 := blk_frozen BK169.out 0; have hfz36_1 := blk_frozen BK169.out 1; have hfz36_2 := blk_frozen BK169.out 2; have hfz36_3 := blk_frozen BK169.out 3; have hfz36_4 := blk_frozen BK169.out 4; have hfz36_5 := blk_frozen BK169.out 5; have hfz36_6 := blk_frozen BK169.out 6; have hfz36_7 := blk_frozen BK169.out 7; have hfz36_8 := blk_frozen BK169.out 8; have hfz36_9 := blk_frozen BK169.out 9; have hfz36_10 := blk_frozen BK169.out 10; have hfz36_11 := blk_frozen BK169.out 11; have hfz36_12 := blk_frozen BK169.out 12; have hfz36_13 := blk_frozen BK169.out 13; have hfz36_14 := blk_frozen BK169.out 14; have hfz36_15 := blk_frozen BK169.out 15; have hfz36_16 := blk_frozen BK169.out 16; have hfz36_17 := blk_frozen BK169.out 17) | ((with_reducible refine gate_callee (f := 38) rfl ?_); refine goesL_ (some 5) rfl rfl Tryz.func38 (by kernel_rfl) rfl #[.int .i64 a0_0, .int .i64 1, .int .i64 12] rfl (by (try simp only [List.map_toArray, List.map_cons, List.map_nil]); first | done | rfl | (simp only [List.length_drop, List.length_take]; rfl)) ?_; (with_reducible refine (track_isIn.calls a0_0 1 12 true _ A2.out).mono ?_); rintro e w' ⟨rfl, ⟨nd, rfl⟩⟩; refine ⟨_, rfl, ?_⟩) | (go_at_call 38; (with_reducible refine (track_isIn.calls a0_1 0 1073741824 true _ A4.out).mono ?_); rintro e w' ⟨rfl, ⟨nd, rfl⟩⟩) | (go_at_call 38; (with_reducible refine (track_isIn.calls a0_16 0 1073741824 true _ A6.out).mono ?_); rintro e w' ⟨rfl, ⟨nd, rfl⟩⟩) | (go_at_call 38; (with_reducible refine (track_isIn.calls a0_2 0 1000 true _ A8.out).mono ?_); rintro e w' ⟨rfl, ⟨nd, rfl⟩⟩) | (go_at_call 38; (with_reducible refine (track_isIn.calls a0_4 0 1000 true _ A10.out).mono ?_); rintro e w' ⟨rfl, ⟨nd, rfl⟩⟩) | (go_at_call 38; (with_reducible refine (track_isIn.calls a0_5 0 1000 true _ A12.out).mono ?_); rintro e w' ⟨rfl, ⟨nd, rfl⟩⟩) | (go_at_call 38; (with_reducible refine (track_isIn.calls a0_3 1 1000 false _ A14.out).mono ?_); rintro e w' ⟨rfl, ⟨nd, rfl⟩⟩))
                go_ret
                exact ⟨by first | rfl | (simp [errW_none, errW_some] <;> rfl) | (simp [*, errW_none, errW_some] <;> rfl), by repeat (first | (with_reducible first | exact HB.out | apply below_alloc | apply pw_below_drewN | apply below_drew1 | refine below_set ?_ GE169.out) | exact HB.out)⟩
            · replace c13 := Bool.eq_false_iff.mpr c13
              subst c13
              have H1 : (some false) = some r := by rw [if_neg (show ¬ (false = true) by decide)] at H; exact H
              clear H
              have H := H1
              clear H1
              obtain rfl := Option.some.inj H
              go_enter Tryz.func25, Tryz.ntmps25
              go_wp2_with (first | ((with_reducible refine gate_dst (N := 1) rfl ?_); refine box_event ?hg (N := 1) ?hd (cs := #[.int .i64 a0_0, .int .i64 a0_1, .int .i64 a0_2, .int .i64 a0_3, .int .i64 a0_4, .int .i64 a0_5, .int .i64 a0_6, .int .i64 a0_7, .int .i64 a0_8, .int .i64 a0_9, .int .i64 a0_10, .int .i64 a0_11, .int .i64 a0_12, .int .i64 a0_13, .int .i64 a0_14, .int .i64 a0_15, .int .i64 a0_16, .int .i64 a0_17]) (t := 84) ?hr ?_; (case hd => rfl); (case hg => rfl); (case hr => first | (go_simp; done) | (go_simp; rfl)); intro gb169 hg w37 hbox hb; have n0_ := Aside0.mk (below_step (by repeat (first | (with_reducible first | exact HB.out | apply below_alloc | apply pw_below_drewN | apply below_drew1) | exact HB.out)) hb); have n1_ := Aside0.mk (hbox); have n2_ := Aside0.mk ((by rw [hg]; exact (below_size (by repeat (first | (with_reducible first | exact HB.out | apply below_alloc | apply pw_below_drewN | apply below_drew1) | exact HB.out))) : w.heap.size ≤ gb169)); have n3_ := Aside0.mk ((by rw [hg]; exact (below_size (by repeat (first | (with_reducible first | exact HB.out | apply below_alloc | apply pw_below_drewN | apply below_drew1) | exact HB.out))) : w.heap.size ≤ gb169)); clear HB; have HB := n0_; have BK169 := n1_; have GW169 := n2_; have GE169 := n3_; clear n0_ n1_ n2_ n3_; clear hb hbox hg; have hcz38_0 : w37.cell? ⟨gb169, 0, none⟩ = some (.int .i64 a0_0) := (blk_cell BK169.out 0).trans rfl; have hcz38_1 : w37.cell? ⟨gb169, 1, none⟩ = some (.int .i64 a0_1) := (blk_cell BK169.out 1).trans rfl; have hcz38_2 : w37.cell? ⟨gb169, 2, none⟩ = some (.int .i64 a0_2) := (blk_cell BK169.out 2).trans rfl; have hcz38_3 : w37.cell? ⟨gb169, 3, none⟩ = some (.int .i64 a0_3) := (blk_cell BK169.out 3).trans rfl; have hcz38_4 : w37.cell? ⟨gb169, 4, none⟩ = some (.int .i64 a0_4) := (blk_cell BK169.out 4).trans rfl; have hcz38_5 : w37.cell? ⟨gb169, 5, none⟩ = some (.int .i64 a0_5) := (blk_cell BK169.out 5).trans rfl; have hcz38_6 : w37.cell? ⟨gb169, 6, none⟩ = some (.int .i64 a0_6) := (blk_cell BK169.out 6).trans rfl; have hcz38_7 : w37.cell? ⟨gb169, 7, none⟩ = some (.int .i64 a0_7) := (blk_cell BK169.out 7).trans rfl; have hcz38_8 : w37.cell? ⟨gb169, 8, none⟩ = some (.int .i64 a0_8) := (blk_cell BK169.out 8).trans rfl; have hcz38_9 : w37.cell? ⟨gb169, 9, none⟩ = some (.int .i64 a0_9) := (blk_cell BK169.out 9).trans rfl; have hcz38_10 : w37.cell? ⟨gb169, 10, none⟩ = some (.int .i64 a0_10) := (blk_cell BK169.out 10).trans rfl; have hcz38_11 : w37.cell? ⟨gb169, 11, none⟩ = some (.int .i64 a0_11) := (blk_cell BK169.out 11).trans rfl; have hcz38_12 : w37.cell? ⟨gb169, 12, none⟩ = some (.int .i64 a0_12) := (blk_cell BK169.out 12).trans rfl; have hcz38_13 : w37.cell? ⟨gb169, 13, none⟩ = some (.int .i64 a0_13) := (blk_cell BK169.out 13).trans rfl; have hcz38_14 : w37.cell? ⟨gb169, 14, none⟩ = some (.int .i64 a0_14) := (blk_cell BK169.out 14).trans rfl; have hcz38_15 : w37.cell? ⟨gb169, 15, none⟩ = some (.int .i64 a0_15) := (blk_cell BK169.out 15).trans rfl; have hcz38_16 : w37.cell? ⟨gb169, 16, none⟩ = some (.int .i64 a0_16) := (blk_cell BK169.out 16).trans rfl; have hcz38_17 : w37.cell? ⟨gb169, 17, none⟩ = some (.int .i64 a0_17) := (blk_cell BK169.out 17).trans rfl; have hfz38_0 := blk_frozen BK169.out 0; have hfz38_1 := blk_frozen BK169.out 1; have hfz38_2 := blk_frozen BK169.out 2; have hfz38_3 := blk_frozen BK169.out 3; have hfz38_4 := blk_frozen BK169.out 4; have hfz38_5 := blk_frozen BK169.out 5; have hfz38_6 := blk_frozen BK169.out 6; have hfz38_7 := blk_frozen BK169.out 7; have hfz38_8 := blk_frozen BK169.out 8; have hfz38_9 := blk_frozen BK169.out 9; have hfz38_10 := blk_frozen BK169.out 10; have hfz38_11 := blk_frozen BK169.out 11; have hfz38_12 := blk_frozen BK169.out 12; have hfz38_13 := blk_frozen BK169.out 13; have hfz38_14 := blk_frozen BK169.out 14; have hfz38_15 := blk_frozen BK169.out 15; have hfz38_16 := blk_frozen BK169.out 16; have hfz38_17 := blk_frozen BK169.out 17) | ((with_reducible refine gate_callee (f := 38) rfl ?_); refine goesL_ (some 5) rfl rfl Tryz.func38 (by kernel_rfl) rfl #[.int .i64 a0_0, .int .i64 1, .int .i64 12] rfl (by (try simp only [List.map_toArray, List.map_cons, List.map_nil]); first | done | rfl | (simp only [List.length_drop, List.length_take]; rfl)) ?_; (with_reducible refine (track_isIn.calls a0_0 1 12 true _ A2.out).mono ?_); rintro e w' ⟨rfl, ⟨nd, rfl⟩⟩; refine ⟨_, rfl, ?_⟩) | (go_at_call 38; (with_reducible refine (track_isIn.calls a0_1 0 1073741824 true _ A4.out).mono ?_); rintro e w' ⟨rfl, ⟨nd, rfl⟩⟩) | (go_at_call 38; (with_reducible refine (track_isIn.calls a0_16 0 1073741824 true _ A6.out).mono ?_); rintro e w' ⟨rfl, ⟨nd, rfl⟩⟩) | (go_at_call 38; (with_reducible refine (track_isIn.calls a0_2 0 1000 true _ A8.out).mono ?_); rintro e w' ⟨rfl, ⟨nd, rfl⟩⟩) | (go_at_call 38; (with_reducible refine (track_isIn.calls a0_4 0 1000 true _ A10.out).mono ?_); rintro e w' ⟨rfl, ⟨nd, rfl⟩⟩) | (go_at_call 38; (with_reducible refine (track_isIn.calls a0_5 0 1000 false _ A12.out).mono ?_); rintro e w' ⟨rfl, ⟨nd, rfl⟩⟩))
              go_ret
              exact ⟨by first | rfl | (simp [errW_none, errW_some] <;> rfl) | (simp [*, errW_none, errW_some] <;> rfl), by repeat (first | (with_reducible first | exact HB.out | apply below_alloc | apply pw_below_drewN | apply below_drew1 | refine below_set ?_ GE169.out) | exact HB.out)⟩
          · replace c11 := Bool.eq_false_iff.mpr c11
            subst c11
            have H1 : (some false) = some r := by rw [if_neg (show ¬ (false = true) by decide)] at H; exact H
            clear H
            have H := H1
            clear H1
            obtain rfl := Option.some.inj H
            go_enter Tryz.func25, Tryz.ntmps25
            go_wp2_with (first | ((with_reducible refine gate_dst (N := 1) rfl ?_); refine box_event ?hg (N := 1) ?hd (cs := #[.int .i64 a0_0, .int .i64 a0_1, .int .i64 a0_2, .int .i64 a0_3, .int .i64 a0_4, .int .i64 a0_5, .int .i64 a0_6, .int .i64 a0_7, .int .i64 a0_8, .int .i64 a0_9, .int .i64 a0_10, .int .i64 a0_11, .int .i64 a0_12, .int .i64 a0_13, .int .i64 a0_14, .int .i64 a0_15, .int .i64 a0_16, .int .i64 a0_17]) (t := 84) ?hr ?_; (case hd => rfl); (case hg => rfl); (case hr => first | (go_simp; done) | (go_simp; rfl)); intro gb169 hg w39 hbox hb; have n0_ := Aside0.mk (below_step (by repeat (first | (with_reducible first | exact HB.out | apply below_alloc | apply pw_below_drewN | apply below_drew1) | exact HB.out)) hb); have n1_ := Aside0.mk (hbox); have n2_ := Aside0.mk ((by rw [hg]; exact (below_size (by repeat (first | (with_reducible first | exact HB.out | apply below_alloc | apply pw_below_drewN | apply below_drew1) | exact HB.out))) : w.heap.size ≤ gb169)); have n3_ := Aside0.mk ((by rw [hg]; exact (below_size (by repeat (first | (with_reducible first | exact HB.out | apply below_alloc | apply pw_below_drewN | apply below_drew1) | exact HB.out))) : w.heap.size ≤ gb169)); clear HB; have HB := n0_; have BK169 := n1_; have GW169 := n2_; have GE169 := n3_; clear n0_ n1_ n2_ n3_; clear hb hbox hg; have hcz40_0 : w39.cell? ⟨gb169, 0, none⟩ = some (.int .i64 a0_0) := (blk_cell BK169.out 0).trans rfl; have hcz40_1 : w39.cell? ⟨gb169, 1, none⟩ = some (.int .i64 a0_1) := (blk_cell BK169.out 1).trans rfl; have hcz40_2 : w39.cell? ⟨gb169, 2, none⟩ = some (.int .i64 a0_2) := (blk_cell BK169.out 2).trans rfl; have hcz40_3 : w39.cell? ⟨gb169, 3, none⟩ = some (.int .i64 a0_3) := (blk_cell BK169.out 3).trans rfl; have hcz40_4 : w39.cell? ⟨gb169, 4, none⟩ = some (.int .i64 a0_4) := (blk_cell BK169.out 4).trans rfl; have hcz40_5 : w39.cell? ⟨gb169, 5, none⟩ = some (.int .i64 a0_5) := (blk_cell BK169.out 5).trans rfl; have hcz40_6 : w39.cell? ⟨gb169, 6, none⟩ = some (.int .i64 a0_6) := (blk_cell BK169.out 6).trans rfl; have hcz40_7 : w39.cell? ⟨gb169, 7, none⟩ = some (.int .i64 a0_7) := (blk_cell BK169.out 7).trans rfl; have hcz40_8 : w39.cell? ⟨gb169, 8, none⟩ = some (.int .i64 a0_8) := (blk_cell BK169.out 8).trans rfl; have hcz40_9 : w39.cell? ⟨gb169, 9, none⟩ = some (.int .i64 a0_9) := (blk_cell BK169.out 9).trans rfl; have hcz40_10 : w39.cell? ⟨gb169, 10, none⟩ = some (.int .i64 a0_10) := (blk_cell BK169.out 10).trans rfl; have hcz40_11 : w39.cell? ⟨gb169, 11, none⟩ = some (.int .i64 a0_11) := (blk_cell BK169.out 11).trans rfl; have hcz40_12 : w39.cell? ⟨gb169, 12, none⟩ = some (.int .i64 a0_12) := (blk_cell BK169.out 12).trans rfl; have hcz40_13 : w39.cell? ⟨gb169, 13, none⟩ = some (.int .i64 a0_13) := (blk_cell BK169.out 13).trans rfl; have hcz40_14 : w39.cell? ⟨gb169, 14, none⟩ = some (.int .i64 a0_14) := (blk_cell BK169.out 14).trans rfl; have hcz40_15 : w39.cell? ⟨gb169, 15, none⟩ = some (.int .i64 a0_15) := (blk_cell BK169.out 15).trans rfl; have hcz40_16 : w39.cell? ⟨gb169, 16, none⟩ = some (.int .i64 a0_16) := (blk_cell BK169.out 16).trans rfl; have hcz40_17 : w39.cell? ⟨gb169, 17, none⟩ = some (.int .i64 a0_17) := (blk_cell BK169.out 17).trans rfl; have hfz40_0 := blk_frozen BK169.out 0; have hfz40_1 := blk_frozen BK169.out 1; have hfz40_2 := blk_frozen BK169.out 2; have hfz40_3 := blk_frozen BK169.out 3; have hfz40_4 := blk_frozen BK169.out 4; have hfz40_5 := blk_frozen BK169.out 5; have hfz40_6 := blk_frozen BK169.out 6; have hfz40_7 := blk_frozen BK169.out 7; have hfz40_8 := blk_frozen BK169.out 8; have hfz40_9 := blk_frozen BK169.out 9; have hfz40_10 := blk_frozen BK169.out 10; have hfz40_11 := blk_frozen BK169.out 11; have hfz40_12 := blk_frozen BK169.out 12; have hfz40_13 := blk_frozen BK169.out 13; have hfz40_14 := blk_frozen BK169.out 14; have hfz40_15 := blk_frozen BK169.out 15; have hfz40_16 := blk_frozen BK169.out 16; have hfz40_17 := blk_frozen BK169.out 17) | ((with_reducible refine gate_callee (f := 38) rfl ?_); refine goesL_ (some 5) rfl rfl Tryz.func38 (by kernel_rfl) rfl #[.int .i64 a0_0, .int .i64 1, .int .i64 12] rfl (by (try simp only [List.map_toArray, List.map_cons, List.map_nil]); first | done | rfl | (simp only [List.length_drop, List.length_take]; rfl)) ?_; (with_reducible refine (track_isIn.calls a0_0 1 12 true _ A2.out).mono ?_); rintro e w' ⟨rfl, ⟨nd, rfl⟩⟩; refine ⟨_, rfl, ?_⟩) | (go_at_call 38; (with_reducible refine (track_isIn.calls a0_1 0 1073741824 true _ A4.out).mono ?_); rintro e w' ⟨rfl, ⟨nd, rfl⟩⟩) | (go_at_call 38; (with_reducible refine (track_isIn.calls a0_16 0 1073741824 true _ A6.out).mono ?_); rintro e w' ⟨rfl, ⟨nd, rfl⟩⟩) | (go_at_call 38; (with_reducible refine (track_isIn.calls a0_2 0 1000 true _ A8.out).mono ?_); rintro e w' ⟨rfl, ⟨nd, rfl⟩⟩) | (go_at_call 38; (with_reducible refine (track_isIn.calls a0_4 0 1000 false _ A10.out).mono ?_); rintro e w' ⟨rfl, ⟨nd, rfl⟩⟩))
            go_ret
            exact ⟨by first | rfl | (simp [errW_none, errW_some] <;> rfl) | (simp [*, errW_none, errW_some] <;> rfl), by repeat (first | (with_reducible first | exact HB.out | apply below_alloc | apply pw_below_drewN | apply below_drew1 | refine below_set ?_ GE169.out) | exact HB.out)⟩
        · replace c9 := Bool.eq_false_iff.mpr c9
          subst c9
          have H1 : (some false) = some r := by rw [if_neg (show ¬ (false = true) by decide)] at H; exact H
          clear H
          have H := H1
          clear H1
          obtain rfl := Option.some.inj H
          go_enter Tryz.func25, Tryz.ntmps25
          go_wp2_with (first | ((with_reducible refine gate_dst (N := 1) rfl ?_); refine box_event ?hg (N := 1) ?hd (cs := #[.int .i64 a0_0, .int .i64 a0_1, .int .i64 a0_2, .int .i64 a0_3, .int .i64 a0_4, .int .i64 a0_5, .int .i64 a0_6, .int .i64 a0_7, .int .i64 a0_8, .int .i64 a0_9, .int .i64 a0_10, .int .i64 a0_11, .int .i64 a0_12, .int .i64 a0_13, .int .i64 a0_14, .int .i64 a0_15, .int .i64 a0_16, .int .i64 a0_17]) (t := 84) ?hr ?_; (case hd => rfl); (case hg => rfl); (case hr => first | (go_simp; done) | (go_simp; rfl)); intro gb169 hg w41 hbox hb; have n0_ := Aside0.mk (below_step (by repeat (first | (with_reducible first | exact HB.out | apply below_alloc | apply pw_below_drewN | apply below_drew1) | exact HB.out)) hb); have n1_ := Aside0.mk (hbox); have n2_ := Aside0.mk ((by rw [hg]; exact (below_size (by repeat (first | (with_reducible first | exact HB.out | apply below_alloc | apply pw_below_drewN | apply below_drew1) | exact HB.out))) : w.heap.size ≤ gb169)); have n3_ := Aside0.mk ((by rw [hg]; exact (below_size (by repeat (first | (with_reducible first | exact HB.out | apply below_alloc | apply pw_below_drewN | apply below_drew1) | exact HB.out))) : w.heap.size ≤ gb169)); clear HB; have HB := n0_; have BK169 := n1_; have GW169 := n2_; have GE169 := n3_; clear n0_ n1_ n2_ n3_; clear hb hbox hg; have hcz42_0 : w41.cell? ⟨gb169, 0, none⟩ = some (.int .i64 a0_0) := (blk_cell BK169.out 0).trans rfl; have hcz42_1 : w41.cell? ⟨gb169, 1, none⟩ = some (.int .i64 a0_1) := (blk_cell BK169.out 1).trans rfl; have hcz42_2 : w41.cell? ⟨gb169, 2, none⟩ = some (.int .i64 a0_2) := (blk_cell BK169.out 2).trans rfl; have hcz42_3 : w41.cell? ⟨gb169, 3, none⟩ = some (.int .i64 a0_3) := (blk_cell BK169.out 3).trans rfl; have hcz42_4 : w41.cell? ⟨gb169, 4, none⟩ = some (.int .i64 a0_4) := (blk_cell BK169.out 4).trans rfl; have hcz42_5 : w41.cell? ⟨gb169, 5, none⟩ = some (.int .i64 a0_5) := (blk_cell BK169.out 5).trans rfl; have hcz42_6 : w41.cell? ⟨gb169, 6, none⟩ = some (.int .i64 a0_6) := (blk_cell BK169.out 6).trans rfl; have hcz42_7 : w41.cell? ⟨gb169, 7, none⟩ = some (.int .i64 a0_7) := (blk_cell BK169.out 7).trans rfl; have hcz42_8 : w41.cell? ⟨gb169, 8, none⟩ = some (.int .i64 a0_8) := (blk_cell BK169.out 8).trans rfl; have hcz42_9 : w41.cell? ⟨gb169, 9, none⟩ = some (.int .i64 a0_9) := (blk_cell BK169.out 9).trans rfl; have hcz42_10 : w41.cell? ⟨gb169, 10, none⟩ = some (.int .i64 a0_10) := (blk_cell BK169.out 10).trans rfl; have hcz42_11 : w41.cell? ⟨gb169, 11, none⟩ = some (.int .i64 a0_11) := (blk_cell BK169.out 11).trans rfl; have hcz42_12 : w41.cell? ⟨gb169, 12, none⟩ = some (.int .i64 a0_12) := (blk_cell BK169.out 12).trans rfl; have hcz42_13 : w41.cell? ⟨gb169, 13, none⟩ = some (.int .i64 a0_13) := (blk_cell BK169.out 13).trans rfl; have hcz42_14 : w41.cell? ⟨gb169, 14, none⟩ = some (.int .i64 a0_14) := (blk_cell BK169.out 14).trans rfl; have hcz42_15 : w41.cell? ⟨gb169, 15, none⟩ = some (.int .i64 a0_15) := (blk_cell BK169.out 15).trans rfl; have hcz42_16 : w41.cell? ⟨gb169, 16, none⟩ = some (.int .i64 a0_16) := (blk_cell BK169.out 16).trans rfl; have hcz42_17 : w41.cell? ⟨gb169, 17, none⟩ = some (.int .i64 a0_17) := (blk_cell BK169.out 17).trans rfl; have hfz42_0 := blk_frozen BK169.out 0; have hfz42_1 := blk_frozen BK169.out 1; have hfz42_2 := blk_frozen BK169.out 2; have hfz42_3 := blk_frozen BK169.out 3; have hfz42_4 := blk_frozen BK169.out 4; have hfz42_5 := blk_frozen BK169.out 5; have hfz42_6 := blk_frozen BK169.out 6; have hfz42_7 := blk_frozen BK169.out 7; have hfz42_8 := blk_frozen BK169.out 8; have hfz42_9 := blk_frozen BK169.out 9; have hfz42_10 := blk_frozen BK169.out 10; have hfz42_11 := blk_frozen BK169.out 11; have hfz42_12 := blk_frozen BK169.out 12; have hfz42_13 := blk_frozen BK169.out 13; have hfz42_14 := blk_frozen BK169.out 14; have hfz42_15 := blk_frozen BK169.out 15; have hfz42_16 := blk_frozen BK169.out 16; have hfz42_17 := blk_frozen BK169.out 17) | ((with_reducible refine gate_callee (f := 38) rfl ?_); refine goesL_ (some 5) rfl rfl Tryz.func38 (by kernel_rfl) rfl #[.int .i64 a0_0, .int .i64 1, .int .i64 12] rfl (by (try simp only [List.map_toArray, List.map_cons, List.map_nil]); first | done | rfl | (simp only [List.length_drop, List.length_take]; rfl)) ?_; (with_reducible refine (track_isIn.calls a0_0 1 12 true _ A2.out).mono ?_); rintro e w' ⟨rfl, ⟨nd, rfl⟩⟩; refine ⟨_, rfl, ?_⟩) | (go_at_call 38; (with_reducible refine (track_isIn.calls a0_1 0 1073741824 true _ A4.out).mono ?_); rintro e w' ⟨rfl, ⟨nd, rfl⟩⟩) | (go_at_call 38; (with_reducible refine (track_isIn.calls a0_16 0 1073741824 true _ A6.out).mono ?_); rintro e w' ⟨rfl, ⟨nd, rfl⟩⟩) | (go_at_call 38; (with_reducible refine (track_isIn.calls a0_2 0 1000 false _ A8.out).mono ?_); rintro e w' ⟨rfl, ⟨nd, rfl⟩⟩))
          go_ret
          exact ⟨by first | rfl | (simp [errW_none, errW_some] <;> rfl) | (simp [*, errW_none, errW_some] <;> rfl), by repeat (first | (with_reducible first | exact HB.out | apply below_alloc | apply pw_below_drewN | apply below_drew1 | refine below_set ?_ GE169.out) | exact HB.out)⟩
      · replace c7 := Bool.eq_false_iff.mpr c7
        subst c7
        have H1 : (some false) = some r := by rw [if_neg (show ¬ (false = true) by decide)] at H; exact H
        clear H
        have H := H1
        clear H1
        obtain rfl := Option.some.inj H
        go_enter Tryz.func25, Tryz.ntmps25
        go_wp2_with (first | ((with_reducible refine gate_dst (N := 1) rfl ?_); refine box_event ?hg (N := 1) ?hd (cs := #[.int .i64 a0_0, .int .i64 a0_1, .int .i64 a0_2, .int .i64 a0_3, .int .i64 a0_4, .int .i64 a0_5, .int .i64 a0_6, .int .i64 a0_7, .int .i64 a0_8, .int .i64 a0_9, .int .i64 a0_10, .int .i64 a0_11, .int .i64 a0_12, .int .i64 a0_13, .int .i64 a0_14, .int .i64 a0_15, .int .i64 a0_16, .int .i64 a0_17]) (t := 84) ?hr ?_; (case hd => rfl); (case hg => rfl); (case hr => first | (go_simp; done) | (go_simp; rfl)); intro gb169 hg w43 hbox hb; have n0_ := Aside0.mk (below_step (by repeat (first | (with_reducible first | exact HB.out | apply below_alloc | apply pw_below_drewN | apply below_drew1) | exact HB.out)) hb); have n1_ := Aside0.mk (hbox); have n2_ := Aside0.mk ((by rw [hg]; exact (below_size (by repeat (first | (with_reducible first | exact HB.out | apply below_alloc | apply pw_below_drewN | apply below_drew1) | exact HB.out))) : w.heap.size ≤ gb169)); have n3_ := Aside0.mk ((by rw [hg]; exact (below_size (by repeat (first | (with_reducible first | exact HB.out | apply below_alloc | apply pw_below_drewN | apply below_drew1) | exact HB.out))) : w.heap.size ≤ gb169)); clear HB; have HB := n0_; have BK169 := n1_; have GW169 := n2_; have GE169 := n3_; clear n0_ n1_ n2_ n3_; clear hb hbox hg; have hcz44_0 : w43.cell? ⟨gb169, 0, none⟩ = some (.int .i64 a0_0) := (blk_cell BK169.out 0).trans rfl; have hcz44_1 : w43.cell? ⟨gb169, 1, none⟩ = some (.int .i64 a0_1) := (blk_cell BK169.out 1).trans rfl; have hcz44_2 : w43.cell? ⟨gb169, 2, none⟩ = some (.int .i64 a0_2) := (blk_cell BK169.out 2).trans rfl; have hcz44_3 : w43.cell? ⟨gb169, 3, none⟩ = some (.int .i64 a0_3) := (blk_cell BK169.out 3).trans rfl; have hcz44_4 : w43.cell? ⟨gb169, 4, none⟩ = some (.int .i64 a0_4) := (blk_cell BK169.out 4).trans rfl; have hcz44_5 : w43.cell? ⟨gb169, 5, none⟩ = some (.int .i64 a0_5) := (blk_cell BK169.out 5).trans rfl; have hcz44_6 : w43.cell? ⟨gb169, 6, none⟩ = some (.int .i64 a0_6) := (blk_cell BK169.out 6).trans rfl; have hcz44_7 : w43.cell? ⟨gb169, 7, none⟩ = some (.int .i64 a0_7) := (blk_cell BK169.out 7).trans rfl; have hcz44_8 : w43.cell? ⟨gb169, 8, none⟩ = some (.int .i64 a0_8) := (blk_cell BK169.out 8).trans rfl; have hcz44_9 : w43.cell? ⟨gb169, 9, none⟩ = some (.int .i64 a0_9) := (blk_cell BK169.out 9).trans rfl; have hcz44_10 : w43.cell? ⟨gb169, 10, none⟩ = some (.int .i64 a0_10) := (blk_cell BK169.out 10).trans rfl; have hcz44_11 : w43.cell? ⟨gb169, 11, none⟩ = some (.int .i64 a0_11) := (blk_cell BK169.out 11).trans rfl; have hcz44_12 : w43.cell? ⟨gb169, 12, none⟩ = some (.int .i64 a0_12) := (blk_cell BK169.out 12).trans rfl; have hcz44_13 : w43.cell? ⟨gb169, 13, none⟩ = some (.int .i64 a0_13) := (blk_cell BK169.out 13).trans rfl; have hcz44_14 : w43.cell? ⟨gb169, 14, none⟩ = some (.int .i64 a0_14) := (blk_cell BK169.out 14).trans rfl; have hcz44_15 : w43.cell? ⟨gb169, 15, none⟩ = some (.int .i64 a0_15) := (blk_cell BK169.out 15).trans rfl; have hcz44_16 : w43.cell? ⟨gb169, 16, none⟩ = some (.int .i64 a0_16) := (blk_cell BK169.out 16).trans rfl; have hcz44_17 : w43.cell? ⟨gb169, 17, none⟩ = some (.int .i64 a0_17) := (blk_cell BK169.out 17).trans rfl; have hfz44_0 := blk_frozen BK169.out 0; have hfz44_1 := blk_frozen BK169.out 1; have hfz44_2 := blk_frozen BK169.out 2; have hfz44_3 := blk_frozen BK169.out 3; have hfz44_4 := blk_frozen BK169.out 4; have hfz44_5 := blk_frozen BK169.out 5; have hfz44_6 := blk_frozen BK169.out 6; have hfz44_7 := blk_frozen BK169.out 7; have hfz44_8 := blk_frozen BK169.out 8; have hfz44_9 := blk_frozen BK169.out 9; have hfz44_10 := blk_frozen BK169.out 10; have hfz44_11 := blk_frozen BK169.out 11; have hfz44_12 := blk_frozen BK169.out 12; have hfz44_13 := blk_frozen BK169.out 13; have hfz44_14 := blk_frozen BK169.out 14; have hfz44_15 := blk_frozen BK169.out 15; have hfz44_16 := blk_frozen BK169.out 16; have hfz44_17 := blk_frozen BK169.out 17) | ((with_reducible refine gate_callee (f := 38) rfl ?_); refine goesL_ (some 5) rfl rfl Tryz.func38 (by kernel_rfl) rfl #[.int .i64 a0_0, .int .i64 1, .int .i64 12] rfl (by (try simp only [List.map_toArray, List.map_cons, List.map_nil]); first | done | rfl | (simp only [List.length_drop, List.length_take]; rfl)) ?_; (with_reducible refine (track_isIn.calls a0_0 1 12 true _ A2.out).mono ?_); rintro e w' ⟨rfl, ⟨nd, rfl⟩⟩; refine ⟨_, rfl, ?_⟩) | (go_at_call 38; (with_reducible refine (track_isIn.calls a0_1 0 1073741824 true _ A4.out).mono ?_); rintro e w' ⟨rfl, ⟨nd, rfl⟩⟩) | (go_at_call 38; (with_reducible refine (track_isIn.calls a0_16 0 1073741824 false _ A6.out).mono ?_); rintro e w' ⟨rfl, ⟨nd, rfl⟩⟩))
        go_ret
        exact ⟨by first | rfl | (simp [errW_none, errW_some] <;> rfl) | (simp [*, errW_none, errW_some] <;> rfl), by repeat (first | (with_reducible first | exact HB.out | apply below_alloc | apply pw_below_drewN | apply below_drew1 | refine below_set ?_ GE169.out) | exact HB.out)⟩
    · replace c5 := Bool.eq_false_iff.mpr c5
      subst c5
      have H1 : (some false) = some r := by rw [if_neg (show ¬ (false = true) by decide)] at H; exact H
      clear H
      have H := H1
      clear H1
      obtain rfl := Option.some.inj H
      go_enter Tryz.func25, Tryz.ntmps25
      go_wp2_with (first | ((with_reducible refine gate_dst (N := 1) rfl ?_); refine box_event ?hg (N := 1) ?hd (cs := #[.int .i64 a0_0, .int .i64 a0_1, .int .i64 a0_2, .int .i64 a0_3, .int .i64 a0_4, .int .i64 a0_5, .int .i64 a0_6, .int .i64 a0_7, .int .i64 a0_8, .int .i64 a0_9, .int .i64 a0_10, .int .i64 a0_11, .int .i64 a0_12, .int .i64 a0_13, .int .i64 a0_14, .int .i64 a0_15, .int .i64 a0_16, .int .i64 a0_17]) (t := 84) ?hr ?_; (case hd => rfl); (case hg => rfl); (case hr => first | (go_simp; done) | (go_simp; rfl)); intro gb169 hg w45 hbox hb; have n0_ := Aside0.mk (below_step (by repeat (first | (with_reducible first | exact HB.out | apply below_alloc | apply pw_below_drewN | apply below_drew1) | exact HB.out)) hb); have n1_ := Aside0.mk (hbox); have n2_ := Aside0.mk ((by rw [hg]; exact (below_size (by repeat (first | (with_reducible first | exact HB.out | apply below_alloc | apply pw_below_drewN | apply below_drew1) | exact HB.out))) : w.heap.size ≤ gb169)); have n3_ := Aside0.mk ((by rw [hg]; exact (below_size (by repeat (first | (with_reducible first | exact HB.out | apply below_alloc | apply pw_below_drewN | apply below_drew1) | exact HB.out))) : w.heap.size ≤ gb169)); clear HB; have HB := n0_; have BK169 := n1_; have GW169 := n2_; have GE169 := n3_; clear n0_ n1_ n2_ n3_; clear hb hbox hg; have hcz46_0 : w45.cell? ⟨gb169, 0, none⟩ = some (.int .i64 a0_0) := (blk_cell BK169.out 0).trans rfl; have hcz46_1 : w45.cell? ⟨gb169, 1, none⟩ = some (.int .i64 a0_1) := (blk_cell BK169.out 1).trans rfl; have hcz46_2 : w45.cell? ⟨gb169, 2, none⟩ = some (.int .i64 a0_2) := (blk_cell BK169.out 2).trans rfl; have hcz46_3 : w45.cell? ⟨gb169, 3, none⟩ = some (.int .i64 a0_3) := (blk_cell BK169.out 3).trans rfl; have hcz46_4 : w45.cell? ⟨gb169, 4, none⟩ = some (.int .i64 a0_4) := (blk_cell BK169.out 4).trans rfl; have hcz46_5 : w45.cell? ⟨gb169, 5, none⟩ = some (.int .i64 a0_5) := (blk_cell BK169.out 5).trans rfl; have hcz46_6 : w45.cell? ⟨gb169, 6, none⟩ = some (.int .i64 a0_6) := (blk_cell BK169.out 6).trans rfl; have hcz46_7 : w45.cell? ⟨gb169, 7, none⟩ = some (.int .i64 a0_7) := (blk_cell BK169.out 7).trans rfl; have hcz46_8 : w45.cell? ⟨gb169, 8, none⟩ = some (.int .i64 a0_8) := (blk_cell BK169.out 8).trans rfl; have hcz46_9 : w45.cell? ⟨gb169, 9, none⟩ = some (.int .i64 a0_9) := (blk_cell BK169.out 9).trans rfl; have hcz46_10 : w45.cell? ⟨gb169, 10, none⟩ = some (.int .i64 a0_10) := (blk_cell BK169.out 10).trans rfl; have hcz46_11 : w45.cell? ⟨gb169, 11, none⟩ = some (.int .i64 a0_11) := (blk_cell BK169.out 11).trans rfl; have hcz46_12 : w45.cell? ⟨gb169, 12, none⟩ = some (.int .i64 a0_12) := (blk_cell BK169.out 12).trans rfl; have hcz46_13 : w45.cell? ⟨gb169, 13, none⟩ = some (.int .i64 a0_13) := (blk_cell BK169.out 13).trans rfl; have hcz46_14 : w45.cell? ⟨gb169, 14, none⟩ = some (.int .i64 a0_14) := (blk_cell BK169.out 14).trans rfl; have hcz46_15 : w45.cell? ⟨gb169, 15, none⟩ = some (.int .i64 a0_15) := (blk_cell BK169.out 15).trans rfl; have hcz46_16 : w45.cell? ⟨gb169, 16, none⟩ = some (.int .i64 a0_16) := (blk_cell BK169.out 16).trans rfl; have hcz46_17 : w45.cell? ⟨gb169, 17, none⟩ = some (.int .i64 a0_17) := (blk_cell BK169.out 17).trans rfl; have hfz46_0 := blk_frozen BK169.out 0; have hfz46_1 := blk_frozen BK169.out 1; have hfz46_2 := blk_frozen BK169.out 2; have hfz46_3 := blk_frozen BK169.out 3; have hfz46_4 := blk_frozen BK169.out 4; have hfz46_5 := blk_frozen BK169.out 5; have hfz46_6 := blk_frozen BK169.out 6; have hfz46_7 := blk_frozen BK169.out 7; have hfz46_8 := blk_frozen BK169.out 8; have hfz46_9 := blk_frozen BK169.out 9; have hfz46_10 := blk_frozen BK169.out 10; have hfz46_11 := blk_frozen BK169.out 11; have hfz46_12 := blk_frozen BK169.out 12; have hfz46_13 := blk_frozen BK169.out 13; have hfz46_14 := blk_frozen BK169.out 14; have hfz46_15 := blk_frozen BK169.out 15; have hfz46_16 := blk_frozen BK169.out 16; have hfz46_17 := blk_frozen BK169.out 17) | ((with_reducible refine gate_callee (f := 38) rfl ?_); refine goesL_ (some 5) rfl rfl Tryz.func38 (by kernel_rfl) rfl #[.int .i64 a0_0, .int .i64 1, .int .i64 12] rfl (by (try simp only [List.map_toArray, List.map_cons, List.map_nil]); first | done | rfl | (simp only [List.length_drop, List.length_take]; rfl)) ?_; (with_reducible refine (track_isIn.calls a0_0 1 12 true _ A2.out).mono ?_); rintro e w' ⟨rfl, ⟨nd, rfl⟩⟩; refine ⟨_, rfl, ?_⟩) | (go_at_call 38; (with_reducible refine (track_isIn.calls a0_1 0 1073741824 false _ A4.out).mono ?_); rintro e w' ⟨rfl, ⟨nd, rfl⟩⟩))
      go_ret
      exact ⟨by first | rfl | (simp [errW_none, errW_some] <;> rfl) | (simp [*, errW_none, errW_some] <;> rfl), by repeat (first | (with_reducible first | exact HB.out | apply below_alloc | apply pw_below_drewN | apply below_drew1 | refine below_set ?_ GE169.out) | exact HB.out)⟩
  · replace c3 := Bool.eq_false_iff.mpr c3
    subst c3
    have H1 : (some false) = some r := by rw [if_neg (show ¬ (false = true) by decide)] at H; exact H
    clear H
    have H := H1
    clear H1
    obtain rfl := Option.some.inj H
    go_enter Tryz.func25, Tryz.ntmps25
    go_wp2_with (first | ((with_reducible refine gate_dst (N := 1) rfl ?_); refine box_event ?hg (N := 1) ?hd (cs := #[.int .i64 a0_0, .int .i64 a0_1, .int .i64 a0_2, .int .i64 a0_3, .int .i64 a0_4, .int .i64 a0_5, .int .i64 a0_6, .int .i64 a0_7, .int .i64 a0_8, .int .i64 a0_9, .int .i64 a0_10, .int .i64 a0_11, .int .i64 a0_12, .int .i64 a0_13, .int .i64 a0_14, .int .i64 a0_15, .int .i64 a0_16, .int .i64 a0_17]) (t := 84) ?hr ?_; (case hd => rfl); (case hg => rfl); (case hr => first | (go_simp; done) | (go_simp; rfl)); intro gb169 hg w47 hbox hb; have n0_ := Aside0.mk (below_step (by repeat (first | (with_reducible first | exact HB.out | apply below_alloc | apply pw_below_drewN | apply below_drew1) | exact HB.out)) hb); have n1_ := Aside0.mk (hbox); have n2_ := Aside0.mk ((by rw [hg]; exact (below_size (by repeat (first | (with_reducible first | exact HB.out | apply below_alloc | apply pw_below_drewN | apply below_drew1) | exact HB.out))) : w.heap.size ≤ gb169)); have n3_ := Aside0.mk ((by rw [hg]; exact (below_size (by repeat (first | (with_reducible first | exact HB.out | apply below_alloc | apply pw_below_drewN | apply below_drew1) | exact HB.out))) : w.heap.size ≤ gb169)); clear HB; have HB := n0_; have BK169 := n1_; have GW169 := n2_; have GE169 := n3_; clear n0_ n1_ n2_ n3_; clear hb hbox hg; have hcz48_0 : w47.cell? ⟨gb169, 0, none⟩ = some (.int .i64 a0_0) := (blk_cell BK169.out 0).trans rfl; have hcz48_1 : w47.cell? ⟨gb169, 1, none⟩ = some (.int .i64 a0_1) := (blk_cell BK169.out 1).trans rfl; have hcz48_2 : w47.cell? ⟨gb169, 2, none⟩ = some (.int .i64 a0_2) := (blk_cell BK169.out 2).trans rfl; have hcz48_3 : w47.cell? ⟨gb169, 3, none⟩ = some (.int .i64 a0_3) := (blk_cell BK169.out 3).trans rfl; have hcz48_4 : w47.cell? ⟨gb169, 4, none⟩ = some (.int .i64 a0_4) := (blk_cell BK169.out 4).trans rfl; have hcz48_5 : w47.cell? ⟨gb169, 5, none⟩ = some (.int .i64 a0_5) := (blk_cell BK169.out 5).trans rfl; have hcz48_6 : w47.cell? ⟨gb169, 6, none⟩ = some (.int .i64 a0_6) := (blk_cell BK169.out 6).trans rfl; have hcz48_7 : w47.cell? ⟨gb169, 7, none⟩ = some (.int .i64 a0_7) := (blk_cell BK169.out 7).trans rfl; have hcz48_8 : w47.cell? ⟨gb169, 8, none⟩ = some (.int .i64 a0_8) := (blk_cell BK169.out 8).trans rfl; have hcz48_9 : w47.cell? ⟨gb169, 9, none⟩ = some (.int .i64 a0_9) := (blk_cell BK169.out 9).trans rfl; have hcz48_10 : w47.cell? ⟨gb169, 10, none⟩ = some (.int .i64 a0_10) := (blk_cell BK169.out 10).trans rfl; have hcz48_11 : w47.cell? ⟨gb169, 11, none⟩ = some (.int .i64 a0_11) := (blk_cell BK169.out 11).trans rfl; have hcz48_12 : w47.cell? ⟨gb169, 12, none⟩ = some (.int .i64 a0_12) := (blk_cell BK169.out 12).trans rfl; have hcz48_13 : w47.cell? ⟨gb169, 13, none⟩ = some (.int .i64 a0_13) := (blk_cell BK169.out 13).trans rfl; have hcz48_14 : w47.cell? ⟨gb169, 14, none⟩ = some (.int .i64 a0_14) := (blk_cell BK169.out 14).trans rfl; have hcz48_15 : w47.cell? ⟨gb169, 15, none⟩ = some (.int .i64 a0_15) := (blk_cell BK169.out 15).trans rfl; have hcz48_16 : w47.cell? ⟨gb169, 16, none⟩ = some (.int .i64 a0_16) := (blk_cell BK169.out 16).trans rfl; have hcz48_17 : w47.cell? ⟨gb169, 17, none⟩ = some (.int .i64 a0_17) := (blk_cell BK169.out 17).trans rfl; have hfz48_0 := blk_frozen BK169.out 0; have hfz48_1 := blk_frozen BK169.out 1; have hfz48_2 := blk_frozen BK169.out 2; have hfz48_3 := blk_frozen BK169.out 3; have hfz48_4 := blk_frozen BK169.out 4; have hfz48_5 := blk_frozen BK169.out 5; have hfz48_6 := blk_frozen BK169.out 6; have hfz48_7 := blk_frozen BK169.out 7; have hfz48_8 := blk_frozen BK169.out 8; have hfz48_9 := blk_frozen BK169.out 9; have hfz48_10 := blk_frozen BK169.out 10; have hfz48_11 := blk_frozen BK169.out 11; have hfz48_12 := blk_frozen BK169.out 12; have hfz48_13 := blk_frozen BK169.out 13; have hfz48_14 := blk_frozen BK169.out 14; have hfz48_15 := blk_frozen BK169.out 15; have hfz48_16 := blk_frozen BK169.out 16; have hfz48_17 := blk_frozen BK169.out 17) | ((with_reducible refine gate_callee (f := 38) rfl ?_); refine goesL_ (some 5) rfl rfl Tryz.func38 (by kernel_rfl) rfl #[.int .i64 a0_0, .int .i64 1, .int .i64 12] rfl (by (try simp only [List.map_toArray, List.map_cons, List.map_nil]); first | done | rfl | (simp only [List.length_drop, List.length_take]; rfl)) ?_; (with_reducible refine (track_isIn.calls a0_0 1 12 false _ A2.out).mono ?_); rintro e w' ⟨rfl, ⟨nd, rfl⟩⟩; refine ⟨_, rfl, ?_⟩))
    go_ret
    exact ⟨by first | rfl | (simp [errW_none, errW_some] <;> rfl) | (simp [*, errW_none, errW_some] <;> rfl), by repeat (first | (with_reducible first | exact HB.out | apply below_alloc | apply pw_below_drewN | apply below_drew1 | refine below_set ?_ GE169.out) | exact HB.out)⟩

end Go.Proofs.YtockdfnnhkhlkaaGreat.G
