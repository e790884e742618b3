/- Loads and stores of values of many cells, in a region that draws its order. -/
import Derived.Test.YtockdfnnhkhlkaaGreatDoorMkHLies
import Derived.Test.YtockdfnnhkhlkaaGreatDoorMkHSeq
import Derived.Test.YtockdfnnhkhlkaaGreatDoorMkHStep
namespace Go.Proofs.YtockdfnnhkhlkaaGreatDoor.G
open Go.RowKit Go.Shelf Go.Proofs.YtockdfnnhkhlkaaGreatDoorW.PrintWords Go.Proofs.YtockdfnnhkhlkaaGreatDoorW.PrintLast Go.Proofs.YtockdfnnhkhlkaaGreatDoorW.PrintMore
set_option linter.unusedVariables false
set_option linter.unusedSimpArgs false
theorem wrapI {a : Int} (h0 : 0 ≤ a) (h : a ≤ 9223372036854775807) : wrap64 a = a := by unfold wrap64; omega
theorem R_shape {α : Type} {d : Kd α} {e : Nat} {w : World} {base : Nat} {ok : Nat → Prop} {v : Value} {xs : List α} (h : d.R e w base ok v xs) (hn : 0 < xs.length) (hs : 0 < d.sz) : ∃ g cap, v = .slice (some ⟨g, 0, none⟩) xs.length cap ∧ xs.length ≤ cap := by
  obtain ⟨A, c, hv, hc, hC⟩ := Kd.R_reads h
  obtain ⟨_, inner, ho, hr⟩ := h
  rcases ho.2 with ⟨h2, _⟩ | ⟨g, cap, cur, h2, _⟩
  · obtain ⟨ad, e1, _⟩ := hC.2.2 hn
    rw [hv, e1] at h2; cases h2
  · refine ⟨g, cap, h2, ?_⟩
    rw [hv] at h2
    injection h2 with _ _ h3
    omega
theorem load_runO' {P : Program} {o : Oper} {a : Act} {w : World} {ty : TypeId} {y : Operand} {g off : Nat} {L : List Value} {d : TypeDesc} (ho : o.op = .load ty y) (hx : a.eval y = .pointer (some ⟨g, off, none⟩)) (h : w.rangeAt g off L) (hu : P.underlying ty = some d) (hd : d.isRow = true) (hi : (P.info? ty).map (·.size) = some L.length) :
    (execOp a.eval o).run P w = .ok (.value (.agg L.toArray)) w := by
  unfold execOp
  simp only [ho, hx, Instr.loadAt, Instr.sureAddr, Sem.run_bind, Sem.run_pure, Result.andThen_ok, run_loadVar_mid w g off ty L d h hu hd hi]
theorem below_setCells {B : Nat} {w0 : World} (g : Nat) (hg : B ≤ g) : ∀ (L : List Value) (o : Nat) (w : World), Below B w0 w → Below B w0 (w.setCells g o L)
  | [], _, _, h => h
  | v :: L, o, w, h => below_setCells g hg L (o + 1) _ (h.setCell (p := ⟨g, o, none⟩) hg v)
end Go.Proofs.YtockdfnnhkhlkaaGreatDoor.G

-- Laid by this session's own program gprint.py over the kit's print (given functions are proved by hand).
namespace Go.Proofs.YtockdfnnhkhlkaaGreatDoor.G
open Go.RowKit Go.Proofs.YtockdfnnhkhlkaaGreatDoorW.PrintWords Go.Proofs.YtockdfnnhkhlkaaGreatDoorW.PrintLast Go.Proofs.YtockdfnnhkhlkaaGreatDoorW.PrintMore
attribute [local go_sem] max2_int min2_int max_two min_two max_three min_three max_four min_four   -- for this text's walks alone
set_option linter.unusedVariables false
set_option linter.unusedSimpArgs false

-- NOT PRINTED: function 43 (althingref1_Reader_Row)

-- NOT PRINTED: function 19 (althingref15_Rows)

-- NOT PRINTED: function 11 (chain_Chain_Now)

-- NOT PRINTED: function 27 (ledger_Ledger_Issued)

-- NOT PRINTED: function 92 (grid_New_int)

/-! ### ledger_isAmount: function 93 -/
def ledger_isAmount.f (a0 : Int) : Option (Bool) := if a0 ≥ 0 then (some (decide (a0 ≤ 1073741824))) else (some false)
set_option maxHeartbeats 8000000 in
set_option maxRecDepth 100000 in
theorem ledger_isAmount.calls (a0 : Int) (r : Bool) (w : World) (h : ledger_isAmount.f a0 = some r) :
    Calls Tryz.prog 93 #[.int .i64 a0] w fun e w' => e = .returned (.bool r) ∧ Drawn0 w w' := by
  have H : (if a0 ≥ 0 then (some (decide (a0 ≤ 1073741824))) else (some false)) = some r := h
  clear h
  by_cases c2 : a0 ≥ 0
  · rw [if_pos c2] at H
    have c2b0 : decide (0 ≤ a0) = true := decide_eq_true c2
    clear c2
    obtain rfl := Option.some.inj H
    go_enter Tryz.func93, Tryz.ntmps93
    go_wp2
    go_ret
    exact ⟨by first | rfl | (simp; done) | (simp [*]; done), by repeat (first | exact Drawn0.refl _ | apply Drawn0.step)⟩
  · rw [if_neg c2] at H
    have c2b0 : decide (0 ≤ a0) = false := decide_eq_false c2
    clear c2
    obtain rfl := Option.some.inj H
    go_enter Tryz.func93, Tryz.ntmps93
    go_wp2
    go_ret
    exact ⟨by first | rfl | (simp; done) | (simp [*]; done), by repeat (first | exact Drawn0.refl _ | apply Drawn0.step)⟩

-- NOT PRINTED: function 46 (ledger_New)

-- NOT PRINTED: function 155 (api_Track_155)

-- NOT PRINTED: function 96 (api_Track_96)

-- NOT PRINTED: function 97 (api_Track_97)

-- NOT PRINTED: function 98 (api_Referendum_98)

-- NOT PRINTED: function 47 (refer_New)

-- NOT PRINTED: function 99 (api_Vote_99)

-- NOT PRINTED: function 100 (voting_record_100)

-- NOT PRINTED: function 48 (voting_New)

-- NOT PRINTED: function 49 (pre_New)

-- NOT PRINTED: function 50 (agenda_New)

-- NOT PRINTED: function 23 (chain_New)

/-! ### althinglaw15_thousand: function 24 -/
def althinglaw15_thousand.l0 : Nat → List Int → Int → Option (List Int)
  | 0, _, _ => none
  | k + 1, x1, x2 => if x2 < 10 then (if x1.length < 17592186044416 then (althinglaw15_thousand.l0 k (x1 ++ [1000]) (wrap64 (x2 + 1))) else (none)) else (some x1)
def althinglaw15_thousand.f (k : Nat)  : Option (List Int) := althinglaw15_thousand.l0 k ([] : List Int) 0
set_option maxHeartbeats 8000000 in
set_option maxRecDepth 100000 in
theorem althinglaw15_thousand.calls (k : Nat)  (r : List Int) (w : World) (h : althinglaw15_thousand.f k  = some r) :
    Calls Tryz.prog 24 #[] w fun e w' => ∃ v0_ : Value, e = .returned (v0_) ∧ Kd.R (Kd.int .i64) 3 w' w.heap.size (fun _ => True) v0_ r ∧ Below w.heap.size w w' := by
  have HB := Aside0.mk (Below.refl w.heap.size w)
  have H : (althinglaw15_thousand.l0 k ([] : List Int) 0) = some r := h
  clear h
  have H' := Aside0.mk H
  clear H
  go_enter Tryz.func24, Tryz.ntmps24
  go_wp2
  go_loopg [1, 2] k (fun kq v1 v2 w' => ∃ (x1_1 : List Int) (x2_1 : Int), v2 = .int .i64 x2_1 ∧ Aside0 (althinglaw15_thousand.l0 kq x1_1 x2_1 = some r) ∧ Aside0 (kq ≤ k) ∧ Aside0 (Kd.R (Kd.int .i64) 3 w' w.heap.size (fun _ => True) v1 x1_1) ∧ Aside0 (Below w.heap.size w w'))
  case atStart => exact ⟨(([] : List Int)), (0), (by first | rfl | (simp; done) | (simp [*]; done)), H', ⟨Nat.le_refl _⟩, ⟨by first | exact Kd.R_nil _ _ _ _ _ | exact Kd.N_nil _ _ _ _ _ | exact Kd.V_nil _ _ _ _ _ | exact Kd.Q_nil _ _ _ _ _ | exact Kd.S_nil _ _ _ _ _⟩, ⟨by repeat (first | (with_reducible first | exact HB.out | apply below_alloc | apply pw_below_drewN | apply below_drew1) | exact HB.out)⟩⟩
  case round =>
    clear H'
    obtain ⟨x1_1, x2_1, rfl, HA, HK1, HO_1, HB⟩ := hrel
    cases gk with
    | zero => exact absurd HA.out (by simp [althinglaw15_thousand.l0])
    | succ k1 =>
      have H := HA.out
      clear HA
      simp only [althinglaw15_thousand.l0] at H
      by_cases c1 : x2_1 < 10
      · rw [if_pos c1] at H
        have c1b0 : decide (x2_1 < 10) = true := decide_eq_true c1
        clear c1
        by_cases c2 : x1_1.length < 17592186044416
        · rw [if_pos c2] at H
          have LMc2 := Aside0.mk c2
          clear c2
          obtain ⟨y170, hy170⟩ : ∃ y_ : List Int, y_ = (x1_1 ++ [1000]) := ⟨_, rfl⟩
          replace H : (althinglaw15_thousand.l0 k1 y170 (wrap64 (x2_1 + 1))) = some r := by first | (rw [hy170]; with_reducible exact H) | (have H2_ := (Option.bind_some _ _).symm.trans H; rw [hy170]; with_reducible exact H2_) | (have H2_ := (Option.bind_some _ _).symm.trans H; with_reducible exact H2_) | with_reducible exact H | (rw [hy170]; exact H) | exact H
          have Ny170 := Aside0.mk hy170
          clear hy170
          have H' := Aside0.mk H
          clear H
          go_wp2_with (first | ((with_reducible refine gate_builtin (b := .append) (xs := #[.tmp 7, .tmp 8]) rfl ?_); at_builtin; refine Kd.R_append (Kd.int .i64) (w0 := w) w.heap.size rfl (.tmp 7) (.tmp 8) 63 3 (.int .i64 0) 8 rfl Tryz.underlying63 info3 rfl (by decide) (by omega) u1 x1_1 1000 [.int .i64 1000] (fun _ => True) (fun _ => False) rfl rfl ?aP (fun _ hk => hk.elim) ?aF ?aO ?aB ?aS ?aL ?_; (case aP => exact rfl); (case aB => exact (by repeat (first | (with_reducible first | exact HB.out | apply below_alloc | apply pw_below_drewN | apply below_drew1) | exact HB.out))); (case aF => exact (fun _ _ => trivial)); (case aO => exact (by (with_reducible repeat (first | apply Kd.R_alloc | apply Kd.R_drewN | apply Kd.R_drew)); exact HO_1.out)); (case aS => exact (below_size (by repeat (first | (with_reducible first | exact HB.out | apply below_alloc | apply pw_below_drewN | apply below_drew1) | exact HB.out)))); (case aL => have := LMc2.out; omega); intro v171 w3 ho hb hg hat; rw [← Ny170.out] at ho; have n0_ := Aside0.mk (hb); have n1_ := Aside0.mk (ho); clear HB; clear HO_1; have HB := n0_; have HO172 := n1_; clear n0_ n1_; clear ho hb hg hat))
          go_roundg k1
          case measure => have := HK1.out; omega
          case rel => exact ⟨(y170), (wrap64 (x2_1 + 1)), (by first | rfl | (simp; done) | (simp [*]; done)), H', ⟨by have := HK1.out; omega⟩, ⟨by (with_reducible repeat (first | apply Kd.R_alloc | apply Kd.R_drewN | apply Kd.R_drew)); exact HO172.out⟩, ⟨by repeat (first | (with_reducible first | exact HB.out | apply below_alloc | apply pw_below_drewN | apply below_drew1) | exact HB.out)⟩⟩
        · rw [if_neg c2] at H
          exact absurd H (by simp)
      · rw [if_neg c1] at H
        have c1b0 : decide (x2_1 < 10) = false := decide_eq_false c1
        clear c1
        obtain rfl := Option.some.inj H
        go_wp2
        go_ret
        exact ⟨_, by first | rfl | (simp [errW_none, errW_some] <;> rfl) | (simp [*, errW_none, errW_some] <;> rfl), by (with_reducible repeat (first | apply Kd.R_alloc | apply Kd.R_drewN | apply Kd.R_drew)); exact HO_1.out, by repeat (first | (with_reducible first | exact HB.out | apply below_alloc | apply pw_below_drewN | apply below_drew1) | exact HB.out)⟩

/-! ### althinglaw15_flat: function 51 -/
def althinglaw15_flat.f (a0 : Int) : Option (Int × Int × Int × Int × Int) := some (1, a0, a0, 1, 0)
set_option maxHeartbeats 8000000 in
set_option maxRecDepth 100000 in
theorem althinglaw15_flat.calls (a0 : Int) (r1 : Int) (r2 : Int) (r3 : Int) (r4 : Int) (r5 : Int) (w : World) (h : althinglaw15_flat.f a0 = some (r1, r2, r3, r4, r5)) :
    Calls Tryz.prog 51 #[.int .i64 a0] w fun e w' => e = .returned (.agg #[.int .i64 r1, .int .i64 r2, .int .i64 r3, .int .i64 r4, .int .i64 r5]) ∧ Below w.heap.size w w' := by
  have hu97 := Tryz.underlying97
  have HB := Aside0.mk (Below.refl w.heap.size w)
  have H : (some (1, a0, a0, 1, 0)) = some (r1, r2, r3, r4, r5) := h
  clear h
  simp only [Option.some.injEq, Prod.mk.injEq] at H
  obtain ⟨rfl, rfl, rfl, rfl, rfl⟩ := H
  go_enter Tryz.func51, Tryz.ntmps51
  go_wp2_with (first | ((with_reducible refine gate_dst (N := 2) rfl ?_); refine box_event ?hg (N := 2) ?hd (cs := #[.int .i64 0, .int .i64 0, .int .i64 0, .int .i64 0, .int .i64 0]) (t := 97) ?hr ?_; (case hd => rfl); (case hg => rfl); (case hr => first | (go_simp; done) | (go_simp; rfl)); intro gb173 hg w2 hbox hb; have n0_ := Aside0.mk (below_step (by repeat (first | (with_reducible first | exact HB.out | apply below_alloc | apply pw_below_drewN | apply below_drew1) | exact HB.out)) hb); have n1_ := Aside0.mk (hbox); have n2_ := Aside0.mk ((by rw [hg]; exact (below_size (by repeat (first | (with_reducible first | exact HB.out | apply below_alloc | apply pw_below_drewN | apply below_drew1) | exact HB.out))) : w.heap.size ≤ gb173)); have n3_ := Aside0.mk ((by rw [hg]; exact (below_size (by repeat (first | (with_reducible first | exact HB.out | apply below_alloc | apply pw_below_drewN | apply below_drew1) | exact HB.out))) : w.heap.size ≤ gb173)); clear HB; have HB := n0_; have BK173 := n1_; have GW173 := n2_; have GE173 := n3_; clear n0_ n1_ n2_ n3_; clear hb hbox hg; have hcz3_0 : w2.cell? ⟨gb173, 0, none⟩ = some (.int .i64 0) := (blk_cell BK173.out 0).trans rfl; have hcz3_1 : w2.cell? ⟨gb173, 1, none⟩ = some (.int .i64 0) := (blk_cell BK173.out 1).trans rfl; have hcz3_2 : w2.cell? ⟨gb173, 2, none⟩ = some (.int .i64 0) := (blk_cell BK173.out 2).trans rfl; have hcz3_3 : w2.cell? ⟨gb173, 3, none⟩ = some (.int .i64 0) := (blk_cell BK173.out 3).trans rfl; have hcz3_4 : w2.cell? ⟨gb173, 4, none⟩ = some (.int .i64 0) := (blk_cell BK173.out 4).trans rfl; have hfz3_0 := blk_frozen BK173.out 0; have hfz3_1 := blk_frozen BK173.out 1; have hfz3_2 := blk_frozen BK173.out 2; have hfz3_3 := blk_frozen BK173.out 3; have hfz3_4 := blk_frozen BK173.out 4))
  refine bodyPost_ret (results_cell_row rfl _ _ gb173 97 #[.int .i64 1, .int .i64 a0, .int .i64 a0, .int .i64 1, .int .i64 0] (0, 0) _ rfl (by (with_reducible repeat (first | refine blk_drewN ?_ _ | refine blk_drew ?_ | refine blk_alloc ?_ _)); refine blk_put (cs := #[.int .i64 1, .int .i64 a0, .int .i64 a0, .int .i64 1, .int .i64 0]) ?_ 4 _ rfl; (with_reducible repeat (first | refine blk_drewN ?_ _ | refine blk_drew ?_ | refine blk_alloc ?_ _)); refine blk_put (cs := #[.int .i64 1, .int .i64 a0, .int .i64 a0, .int .i64 0, .int .i64 0]) ?_ 3 _ rfl; (with_reducible repeat (first | refine blk_drewN ?_ _ | refine blk_drew ?_ | refine blk_alloc ?_ _)); refine blk_put (cs := #[.int .i64 1, .int .i64 a0, .int .i64 0, .int .i64 0, .int .i64 0]) ?_ 2 _ rfl; (with_reducible repeat (first | refine blk_drewN ?_ _ | refine blk_drew ?_ | refine blk_alloc ?_ _)); refine blk_put (cs := #[.int .i64 1, .int .i64 0, .int .i64 0, .int .i64 0, .int .i64 0]) ?_ 1 _ rfl; (with_reducible repeat (first | refine blk_drewN ?_ _ | refine blk_drew ?_ | refine blk_alloc ?_ _)); refine blk_put (cs := #[.int .i64 0, .int .i64 0, .int .i64 0, .int .i64 0, .int .i64 0]) ?_ 0 _ rfl; (with_reducible repeat (first | refine blk_drewN ?_ _ | refine blk_drew ?_ | refine blk_alloc ?_ _)); exact BK173.out) Tryz.underlying97 rfl (by kernel_rfl)) rfl ?_
  exact ⟨by first | rfl | (simp [errW_none, errW_some] <;> rfl) | (simp [*, errW_none, errW_some] <;> rfl), by repeat (first | (with_reducible first | exact HB.out | apply below_alloc | apply pw_below_drewN | apply below_drew1 | refine below_set ?_ GE173.out) | exact HB.out)⟩

end Go.Proofs.YtockdfnnhkhlkaaGreatDoor.G

/- tracks of the laws of chapters 14 and 15: two tracks (laid by mkztracks.py). -/
namespace Go.Proofs.YtockdfnnhkhlkaaGreatDoor.G
open Go.RowKit Go.Shelf Go.Proofs.YtockdfnnhkhlkaaGreatDoorW.PrintWords Go.Proofs.YtockdfnnhkhlkaaGreatDoorW.PrintLast Go.Proofs.YtockdfnnhkhlkaaGreatDoorW.PrintMore
set_option linter.unusedVariables false
set_option linter.unusedSimpArgs false

def curveA : S97 := ⟨1, 500000000, 500000000, 1, 0⟩
def curveB : S97 := ⟨1, 10000000, 10000000, 1, 0⟩
def trackA : S100 := ⟨2, 20, 1, 6, 2, 2, curveA, curveB, 50, 0⟩
def trackB : S100 := ⟨1, 20, 1, 6, 2, 0, curveA, curveB, 1000, 2⟩
def trkZ : List Value := List.replicate 18 (.int .i64 0)
def trkOf (a b c d e f g h : Int) : List Value := [.int .i64 a, .int .i64 20, .int .i64 1, .int .i64 6, .int .i64 2, .int .i64 f, .int .i64 1, .int .i64 500000000, .int .i64 500000000, .int .i64 1, .int .i64 0, .int .i64 1, .int .i64 10000000, .int .i64 10000000, .int .i64 1, .int .i64 0, .int .i64 g, .int .i64 h]
def trkA : List Value := trkOf 2 0 0 0 0 2 50 0
def trkB : List Value := trkOf 1 0 0 0 0 0 1000 2
theorem size_track : (Tryz.prog.info? 100).map (·.size) = some 18 := by kernel_rfl
theorem trkA_one : (trkA.toArray.all fun x => x.oneCell') = true := by kernel_rfl

def althinglaw15_tracks.f : Option (List S100) := some [trackA, trackB]
set_option maxRecDepth 100000 in
set_option maxHeartbeats 8000000 in
theorem althinglaw15_tracks.calls (r : List S100) (w : World) (h : althinglaw15_tracks.f = some r) :
    Calls Tryz.prog 25 #[] w fun e w' => ∃ v0_ : Value, e = .returned v0_ ∧ Kd.R k100 100 w' w.heap.size (fun _ => True) v0_ r ∧ Below w.heap.size w w' := by
  obtain rfl := Option.some.inj h
  clear h
  have hu100 := Tryz.underlying100
  have hu97 := Tryz.underlying97
  go_enter Tryz.func25, Tryz.ntmps25
  go_upto_region 2 with (first
    | (go_at_call 51; (with_reducible refine (althinglaw15_flat.calls 500000000 _ _ _ _ _ _ rfl).mono ?_); rintro e w1 ⟨rfl, hb_⟩; have B1 := Aside0.mk hb_; clear hb_)
    | (go_at_call 51; (with_reducible refine (althinglaw15_flat.calls 10000000 _ _ _ _ _ _ rfl).mono ?_); rintro e w2 ⟨rfl, hb_⟩; have B2 := Aside0.mk (B1.out.trans (hb_.mono B1.out.size)); clear hb_))
  have n0_ : Lies (w2.alloc (.cells #[.int .i64 2, .int .i64 20, .int .i64 1, .int .i64 6, .int .i64 2, .int .i64 2, .int .i64 1, .int .i64 500000000, .int .i64 500000000, .int .i64 1, .int .i64 0, .int .i64 1, .int .i64 10000000, .int .i64 10000000, .int .i64 1, .int .i64 0, .int .i64 50, .int .i64 0] 100)) w2.heap.size trkA := Lies.box (t := 100) (blk_new w2 _)
  have n1_ := below_alloc B2.out (.cells #[.int .i64 2, .int .i64 20, .int .i64 1, .int .i64 6, .int .i64 2, .int .i64 2, .int .i64 1, .int .i64 500000000, .int .i64 500000000, .int .i64 1, .int .i64 0, .int .i64 1, .int .i64 10000000, .int .i64 10000000, .int .i64 1, .int .i64 0, .int .i64 50, .int .i64 0] 100)
  generalize w2.alloc _ = w4 at n0_ n1_ ⊢
  generalize Value.agg _ = vA0
  generalize Value.agg _ = vB0
  generalize Value.agg _ = vC0
  generalize w2.heap.size = g1 at n0_ ⊢
  have T2 := Aside0.mk n0_
  have B4 := Aside0.mk n1_
  clear n0_ n1_
  go_upto_region 3 with (first
    | ((with_reducible refine gate_dst (N := 6) rfl ?_); refine wpList_load_mid rfl 100 _ rfl g1 0 rfl trkA _ T2.out.range Tryz.underlying100 rfl size_track ?_)
    | ((with_reducible refine gate_store (t := 100) (p := 2) rfl ?_); go_loud (refine wpList_store_mid rfl 100 _ _ rfl w4.heap.size 0 trkA.toArray rfl rfl (show World.there _ w4.heap.size 0 18 from (Lies.box (L := trkZ) (t := 100) (blk_new w4 _)).there) size_track trkA_one ?_)))
  have n0_ : Lies (w4.alloc (.cells #[.int .i64 0, .int .i64 0, .int .i64 0, .int .i64 0, .int .i64 0, .int .i64 0, .int .i64 0, .int .i64 0, .int .i64 0, .int .i64 0, .int .i64 0, .int .i64 0, .int .i64 0, .int .i64 0, .int .i64 0, .int .i64 0, .int .i64 0, .int .i64 0] 100)) w4.heap.size trkZ := Lies.box (t := 100) (blk_new w4 _)
  have n2_ := T2.out.below (below_alloc (Below.refl w4.heap.size w4) (.cells #[.int .i64 0, .int .i64 0, .int .i64 0, .int .i64 0, .int .i64 0, .int .i64 0, .int .i64 0, .int .i64 0, .int .i64 0, .int .i64 0, .int .i64 0, .int .i64 0, .int .i64 0, .int .i64 0, .int .i64 0, .int .i64 0, .int .i64 0, .int .i64 0] 100)) (T2.out.lt (by decide))
  have n3_ : g1 ≠ w4.heap.size := by have := T2.out.lt (by decide); omega
  have n1_ := below_setCells w4.heap.size B4.out.size trkA 0 _ (below_alloc B4.out (.cells #[.int .i64 0, .int .i64 0, .int .i64 0, .int .i64 0, .int .i64 0, .int .i64 0, .int .i64 0, .int .i64 0, .int .i64 0, .int .i64 0, .int .i64 0, .int .i64 0, .int .i64 0, .int .i64 0, .int .i64 0, .int .i64 0, .int .i64 0, .int .i64 0] 100))
  replace n2_ := n2_.splice_far n3_ 0 trkA
  replace n0_ := n0_.splice 0 trkA (by decide)
  rw [show trkZ.take 0 ++ trkA ++ trkZ.drop (0 + trkA.length) = trkA from rfl] at n0_
  generalize World.setCells (w4.alloc _) _ _ _ = w6 at n0_ n1_ n2_ ⊢
  have n4_ : w.heap.size ≤ w4.heap.size := B4.out.size
  generalize w4.heap.size = g2 at n0_ n3_ n4_ ⊢
  have HG2 := Aside0.mk n4_
  clear n4_
  have c0 : w6.cell? ⟨g2, 0, none⟩ = some (.int .i64 2) := n0_.cell rfl
  have f0 := n0_.frozen 0 (by decide)
  have c17 : w6.cell? ⟨g2, 17, none⟩ = some (.int .i64 0) := n0_.cell rfl
  have f17 := n0_.frozen 17 (by decide)
  have c16 : w6.cell? ⟨g2, 16, none⟩ = some (.int .i64 50) := n0_.cell rfl
  have f16 := n0_.frozen 16 (by decide)
  have c5 : w6.cell? ⟨g2, 5, none⟩ = some (.int .i64 2) := n0_.cell rfl
  have f5 := n0_.frozen 5 (by decide)
  have T4 := Aside0.mk n0_
  have T5 := Aside0.mk n2_
  have B6 := Aside0.mk n1_
  clear n0_ n1_ n2_
  generalize Value.agg _ = vA
  go_upto_region 4 with (fail)
  have n0_ := (((T4.out.set 0 (by decide) (.int .i64 1)).set 17 (by decide) (.int .i64 2)).set 16 (by decide) (.int .i64 1000)).set 5 (by decide) (.int .i64 0)
  have n1_ := (((B6.out.setCell (p := ⟨g2, 0, none⟩) HG2.out (.int .i64 1)).setCell (p := ⟨g2, 17, none⟩) HG2.out (.int .i64 2)).setCell (p := ⟨g2, 16, none⟩) HG2.out (.int .i64 1000)).setCell (p := ⟨g2, 5, none⟩) HG2.out (.int .i64 0)
  have n2_ := (((T5.out.set_far n3_ 0 (.int .i64 1)).set_far n3_ 17 (.int .i64 2)).set_far n3_ 16 (.int .i64 1000)).set_far n3_ 5 (.int .i64 0)
  rw [show (((trkA.set 0 (.int .i64 1)).set 17 (.int .i64 2)).set 16 (.int .i64 1000)).set 5 (.int .i64 0) = trkB from rfl] at n0_
  clear c0 f0 c17 f17 c16 f16 c5 f5
  generalize World.setCell _ _ _ = w7 at n0_ n1_ n2_ ⊢
  have T7 := Aside0.mk n0_
  have T8 := Aside0.mk n2_
  have B7 := Aside0.mk n1_
  clear n0_ n1_ n2_ n3_
  go_wp2_with (first
    | ((with_reducible refine gate_dst (N := 11) rfl ?_); refine wpList_load_mid rfl 100 _ rfl g1 0 rfl trkA _ T8.out.range Tryz.underlying100 rfl size_track ?_)
    | ((with_reducible refine gate_dst (N := 12) rfl ?_); refine wpList_load_mid rfl 100 _ rfl g2 0 rfl trkB _ T7.out.range Tryz.underlying100 rfl size_track ?_)
    | ((with_reducible refine gate_dst (N := 13) rfl ?_); go_loud (refine Kd.R_lit k100 (w0 := w) w.heap.size 100 ?hg (N := 13) ?hd (xs := [trackA, trackB]) (inner := trkA ++ trkB) (ok := fun _ => True) (okp := fun _ => True) ?hr ?hp (fun _ hk => hk) trivial B7.out B7.out.size (by decide) ?_; (case hd => rfl); (case hg => rfl); (case hr => go_simp; rfl); (case hp => exact Reps.front (k100_mkM _ _ _ trackA) rfl (Reps.front (k100_mkM _ _ _ trackB) rfl (Reps.none _ _) rfl) rfl); intro v9 w9 hR hb hg_ hnew_; clear hg_ hnew_)))
  go_ret
  exact ⟨_, rfl, hR, hb⟩

end Go.Proofs.YtockdfnnhkhlkaaGreatDoor.G
