/- code.DecodeCall: bytes as a call, or refused. -/
import Derived.Test.YtilckocpgififaaBaHTaken
import Derived.Test.YtilckocpgififaaBaGx1
import Derived.Test.YtilckocpgififaaBaHIsExt
import Derived.Test.YtilckocpgififaaBaHLies
import Derived.Deep.RegionHeld3
namespace Go.Proofs.Ytilckocpgififaa.G
open Go.RowKit Go.Shelf Go.Proofs.YtilckocpgififaaW.PrintWords Go.Proofs.YtilckocpgififaaW.PrintLast Go.Proofs.YtilckocpgififaaW.PrintMore Go.Proofs.Ytilckocpgififaa.PNum
set_option linter.unusedVariables false
set_option linter.unusedSimpArgs false

/-- Bytes as a call, or refused. -/
def keepC : Option S25 → Option S25
  | some x => if okT 3 x = true then some x else none
  | none => none
/-- What goes with it. -/
def errOf {α : Type} : Option α → Int
  | some _ => 0
  | none => 2
def decF (l : List Int) : Option S25 := keepC (takenF 4 l)

set_option maxRecDepth 100000 in
set_option maxHeartbeats 16000000 in
theorem decode_calls (A : Option Addr) (c : Nat) (l : List Int) (w : World) (hC : Kd.C (Kd.int .u8) w A l.length l) (hc : l.length ≤ c) (hb : IsBytes l) (hs : l.length < 140737488355328) :
    Calls Try.prog 25 #[.slice A l.length c] w fun e w' =>
      (∃ L : List Value, e = .returned (.tuple #[.agg L.toArray, .int .i64 (errOf (decF l))]) ∧ L.length = 4 ∧ (∀ v ∈ L, v.oneCell' = true) ∧ k25.M w' w.heap.size (fun _ => True) ((decF l).getD z25) L) ∧ Below w.heap.size w w' := by
  obtain ⟨Z, hZ⟩ : ∃ Z, Z = zeroC := ⟨_, rfl⟩
  have hZl : Z.length = 4 := by rw [hZ]; rfl
  have hZo : ∀ v ∈ Z, v.oneCell' = true := by rw [hZ]; intro v hv; simp [zeroC] at hv; rcases hv with rfl | rfl | rfl | rfl <;> rfl
  have HAL : Aside0 (∀ w, (zeroValue 25).run Try.prog w = .ok (.agg Z.toArray) w) := ⟨fun w => by rw [hZ]; exact zero_runC w⟩
  have HBZ : Aside0 (∀ w, (Instr.build 25 #[]).run Try.prog w = .ok (.agg Z.toArray) w) := ⟨fun w => by rw [hZ]; exact run_build w _ _ _ built_call⟩
  have HZM : Aside0 (∀ w b ok, k25.M w b ok z25 Z) := ⟨fun w b ok => by rw [hZ]; exact zero_M w b ok⟩
  have HZl := Aside0.mk hZl
  have HZo := Aside0.mk hZo
  have HC := Aside0.mk hC
  have Hc := Aside0.mk hc
  have Hb := Aside0.mk hb
  have Hs := Aside0.mk hs
  clear hZ hZl hZo hC hc hb hs
  go_enter Try.func25, Try.ntmps25
  go_upto_region 1 with ((with_reducible refine gate_dst (N := 2) rfl ?_); refine box_event ?hg (N := 2) ?hd (cs := Z.toArray) (t := 25) ?hr ?_; (case hd => rfl); (case hg => rfl); (case hr => first | (simp [execOp, Instr.alloc, HAL.out, newVar, newRow, go_sem]; done) | (simp [execOp, Instr.alloc, HAL.out, newVar, newRow, go_sem]; rfl)); intro g2 hg_ w1 hbox_ hb_; have h2_ : Lies w1 g2 Z := Lies.box hbox_; have G2 := Aside0.mk hg_; have L21 := Aside0.mk h2_; have B1 := Aside0.mk hb_; clear h2_; clear hg_ hbox_ hb_)
  go_upto_region 2 with (first
    | (go_at_call 52; have hT_ := taken_at 4 0 (by omega) (by omega) A c l w1 (Kd.C_below HC.out B1.out) Hc.out Hb.out Hs.out; with_reducible refine hT_.mono ?_; clear hT_; rintro e w2 ⟨⟨L, rfl, hLl_, hLo_, hM_⟩, hb_⟩; have HLl := Aside0.mk hLl_; have HLo := Aside0.mk hLo_; have HM := Aside0.mk hM_; have B2 := Aside0.mk hb_; clear hLl_ hLo_ hM_ hb_)
    | ((with_reducible refine gate_dst (N := 4) rfl ?_); refine box_event ?hg (N := 4) ?hd (cs := Z.toArray) (t := 25) ?hr ?_; (case hd => rfl); (case hg => rfl); (case hr => first | (simp [execOp, Instr.alloc, HAL.out, newVar, newRow, go_sem]; done) | (simp [execOp, Instr.alloc, HAL.out, newVar, newRow, go_sem]; rfl)); intro g4 hg_ w3 hbox_ hb_; have h4_ : Lies w3 g4 Z := Lies.box hbox_; have G4 := Aside0.mk hg_; have L43 := Aside0.mk h4_; have B3 := Aside0.mk hb_; clear h4_; clear hg_ hbox_ hb_)
    | ((with_reducible refine gate_store (t := 25) (p := 4) rfl ?_); refine wpList_store_mid rfl 25 _ _ rfl g4 0 L.toArray rfl rfl (by rw [List.size_toArray, HLl.out, ← HZl.out]; exact L43.out.there) (by rw [List.size_toArray, HLl.out]; exact info_call) (all_oneCell_toArray HLo.out) ?_))
  have s1 := B1.out.size
  have s2 := B2.out.size
  have s3 := B3.out.size
  have e2 := G2.out
  have e4 := G4.out
  have g2lt : g2 < w1.heap.size := L21.out.lt (by rw [HZl.out]; decide)
  have g4lt : g4 < w3.heap.size := L43.out.lt (by rw [HZl.out]; decide)
  have n4_ : Lies (w3.setCells g4 0 L) g4 L := by have := L43.out.splice 0 L (by rw [HLl.out, HZl.out]; decide); rwa [List.take_zero, List.nil_append, List.drop_of_length_le (by rw [HLl.out, HZl.out]; decide), List.append_nil] at this
  have k_ : Kept (fun k => k = g4) w3 (w3.setCells g4 0 L) := kept_setCells g4 0 L w3
  have n2_ := ((L21.out.below B2.out g2lt).below B3.out (by omega)).kept k_ (by rw [HZl.out]; decide) (by show ¬ g2 = g4; omega)
  have b_ : Below w.heap.size w (w3.setCells g4 0 L) := below_setCells' g4 (by omega) L 0 w3 (below_step (below_step B1.out B2.out) B3.out)
  have m_ : ∀ x, takenF 4 l = some x → k25.M (w3.setCells g4 0 L) w1.heap.size (fun k => k < w2.heap.size) x L := fun x hx => by
    have h := k25.M_mono (fun k h => h.2.2.1) (k25.M_bound (HM.out x hx))
    refine Kd.M_step (Kd.M_below h B3.out) (fun k ho hl => k_.block k hl ?_)
    show ¬ k = g4
    omega
  have z_ : w3.heap.size ≤ (w3.setCells g4 0 L).heap.size := k_.size
  generalize World.setCells _ _ _ _ = w4 at n4_ n2_ b_ m_ k_ z_ ⊢
  have L44 := Aside0.mk n4_
  have L24 := Aside0.mk n2_
  have B04 := Aside0.mk b_
  have HM4 := Aside0.mk m_
  have Hlt : Aside0 (w.heap.size ≤ g2 ∧ g2 < w1.heap.size ∧ w2.heap.size ≤ g4 ∧ w.heap.size ≤ w1.heap.size ∧ w1.heap.size ≤ w2.heap.size ∧ g4 < w4.heap.size ∧ w2.heap.size ≤ w4.heap.size) := ⟨by omega, by omega, by omega, by omega, by omega, by omega, by omega⟩
  clear n4_ n2_ b_ m_ k_ z_ s1 s2 s3 e2 e4 g2lt g4lt HM
  cases hT : takenF 4 l with
  | none =>
    have hD : decF l = none := by unfold decF; rw [hT]; rfl
    have HD := Aside0.mk hD
    have HT := Aside0.mk hT
    clear hT hD
    simp only [Option.isSome_none]
    go_wp2_with (first
      | ((with_reducible refine gate_dst (N := 18) rfl ?_); refine Kd.event_run (v := .agg Z.toArray) (w1 := w4) rfl (build_run0' rfl (HBZ.out w4)) ?_)
      | ((with_reducible refine gate_store (t := 25) (p := 2) rfl ?_); refine wpList_store_mid rfl 25 _ _ rfl g2 0 Z.toArray rfl rfl (by rw [List.size_toArray]; exact L24.out.there) (by rw [List.size_toArray, HZl.out]; exact info_call) (all_oneCell_toArray HZo.out) ?_))
    have BR := World.rangeAt_setCells_same w4 g2 0 Z L24.out.there
    have hres := run_loadVar_mid (P := Try.prog) (w4.setCells g2 0 Z) g2 0 25 Z _ BR Try.underlying25 rfl (by rw [HZl.out]; exact info_call)
    refine bodyPost_ret (results_cell_tmp rfl _ rfl hres) rfl ?_
    refine ⟨⟨Z, ?_, HZl.out, HZo.out, ?_⟩, below_setCells' g2 Hlt.out.1 Z 0 w4 B04.out⟩
    · rw [HD.out]; rfl
    · rw [HD.out]; exact HZM.out _ _ _
  | some x =>
    have HT := Aside0.mk hT
    have hM := HM4.out x hT
    obtain ⟨A3, c3, rfl, l3, hC3⟩ := k25_open (k25.K_of_M hM)
    have p0 := L44.out.cell (i := 0) rfl
    have p1 := L44.out.cell (i := 1) rfl
    have p2 := L44.out.cell (i := 2) rfl
    have p3 := L44.out.cell (i := 3) rfl
    have HC3 := Aside0.mk hC3
    have Hl3 := Aside0.mk l3
    have HM5 := Aside0.mk hM
    clear hT hM hC3 l3
    simp only [Option.isSome_some]
    obtain ⟨r, hr⟩ : ∃ r, okT 3 x = r := ⟨_, rfl⟩
    have HR := Aside0.mk hr
    have hcall := isCall_tells x
    rw [hr] at hcall
    have HCALL := Aside0.mk hcall
    clear hr hcall
    cases r with
    | false =>
      have HD : Aside0 (decF l = none) := ⟨by unfold decF; rw [HT.out]; show (if okT 3 x = true then some x else none) = none; rw [HR.out]; rfl⟩
      go_upto_region 3 with (go_at_call 11; with_reducible refine (code_IsCall.calls _ _ _ A3 c3 x.f3 false w4 HC3.out Hl3.out HCALL.out).mono ?_; rintro e w5 ⟨rfl, hb5_⟩; have B5 := Aside0.mk hb5_; clear hb5_)
      have L25 := Aside0.mk (L24.out.below B5.out (by have := Hlt.out; omega))
      have B05 := Aside0.mk (B04.out.trans (B5.out.mono B04.out.size))
      go_wp2_with (first
        | ((with_reducible refine gate_dst (N := 18) rfl ?_); refine Kd.event_run (v := .agg Z.toArray) (w1 := w5) rfl (build_run0' rfl (HBZ.out w5)) ?_)
        | ((with_reducible refine gate_store (t := 25) (p := 2) rfl ?_); refine wpList_store_mid rfl 25 _ _ rfl g2 0 Z.toArray rfl rfl (by rw [List.size_toArray]; exact L25.out.there) (by rw [List.size_toArray, HZl.out]; exact info_call) (all_oneCell_toArray HZo.out) ?_))
      have BR := World.rangeAt_setCells_same w5 g2 0 Z L25.out.there
      have hres := run_loadVar_mid (P := Try.prog) (w5.setCells g2 0 Z) g2 0 25 Z _ BR Try.underlying25 rfl (by rw [HZl.out]; exact info_call)
      refine bodyPost_ret (results_cell_tmp rfl _ rfl hres) rfl ?_
      refine ⟨⟨Z, ?_, HZl.out, HZo.out, ?_⟩, below_setCells' g2 Hlt.out.1 Z 0 w5 B05.out⟩
      · rw [HD.out]; rfl
      · rw [HD.out]; exact HZM.out _ _ _
    | true =>
      have HD : Aside0 (decF l = some x) := ⟨by unfold decF; rw [HT.out]; show (if okT 3 x = true then some x else none) = some x; rw [HR.out]; rfl⟩
      go_upto_region 4 with (go_at_call 11; with_reducible refine (code_IsCall.calls _ _ _ A3 c3 x.f3 true w4 HC3.out Hl3.out HCALL.out).mono ?_; rintro e w5 ⟨rfl, hb5_⟩; have B5 := Aside0.mk hb5_; clear hb5_)
      have L25 := Aside0.mk (L24.out.below B5.out (by have := Hlt.out; omega))
      have L45 := Aside0.mk (L44.out.below B5.out (by have := Hlt.out; omega))
      have B05 := Aside0.mk (B04.out.trans (B5.out.mono B04.out.size))
      clear p0 p1 p2 p3
      obtain ⟨L, hL⟩ : ∃ L, L = [Value.int .i64 x.f0, .int .i64 x.f1, .int .i64 x.f2, .slice A3 x.f3.length c3] := ⟨_, rfl⟩
      rw [← hL] at L45 HLl HLo HM5
      clear hL
      go_wp2_with (first
        | ((with_reducible refine gate_dst (N := 19) rfl ?_); refine wpList_load_mid rfl 25 _ rfl g4 0 rfl L _ L45.out.range Try.underlying25 rfl (by rw [HLl.out]; exact info_call) ?_)
        | ((with_reducible refine gate_store (t := 25) (p := 2) rfl ?_); refine wpList_store_mid rfl 25 _ _ rfl g2 0 L.toArray rfl rfl (by rw [List.size_toArray, HLl.out, ← HZl.out]; exact L25.out.there) (by rw [List.size_toArray, HLl.out]; exact info_call) (all_oneCell_toArray HLo.out) ?_))
      have BR := World.rangeAt_setCells_same w5 g2 0 L (by rw [HLl.out, ← HZl.out]; exact L25.out.there)
      have hres := run_loadVar_mid (P := Try.prog) (w5.setCells g2 0 L) g2 0 25 L _ BR Try.underlying25 rfl (by rw [HLl.out]; exact info_call)
      refine bodyPost_ret (results_cell_tmp rfl _ rfl hres) rfl ?_
      refine ⟨⟨L, ?_, HLl.out, HLo.out, ?_⟩, below_setCells' g2 Hlt.out.1 L 0 w5 B05.out⟩
      · rw [HD.out]; rfl
      · rw [HD.out]
        have h1 : k25.M w4 w.heap.size (fun k => w1.heap.size ≤ k ∧ k < w4.heap.size) x L := k25.M_lower Hlt.out.2.2.2.1 (k25.M_mono (fun k h => ⟨h.2.1, h.2.2.1⟩) (k25.M_bound HM5.out))
        exact k25.M_mono (fun _ _ => trivial) (Kd.M_step (Kd.M_below h1 B5.out) (fun k ho hl => (kept_setCells g2 0 L w5).block k hl (by show ¬ k = g2; have := Hlt.out; have := ho.1; omega)))
end Go.Proofs.Ytilckocpgififaa.G

/- code.named's contract: the kinds that copy the digest, and no kind (laid by mknamed34.py). -/
namespace Go.Proofs.Ytilckocpgififaa.G
open Go.Extern.Stop (cell)
open Go.RowKit Go.Proofs.YtilckocpgififaaW.PrintWords Go.Proofs.YtilckocpgififaaW.PrintLast Go.Proofs.YtilckocpgififaaW.PrintMore
set_option linter.unusedVariables false
set_option linter.unusedSimpArgs false

theorem cells_sum (y : Ext) (s : List UInt8) (A : Option Addr) (c : Nat) (hy : y.sum.length = 32) (hs : s.length = 32) : (y.cells A c).take 7 ++ s.map cell ++ (y.cells A c).drop (7 + (s.map cell).length) = ({ y with sum := s } : Ext).cells A c := by
  rw [List.length_map, hs]
  unfold Ext.cells
  rw [List.take_append_of_le_length (by simp), List.take_of_length_le (by simp), List.drop_append, List.drop_of_length_le (by simp), List.nil_append, List.drop_append, List.drop_of_length_le (by simp [hy]), List.nil_append, List.append_assoc]
  congr 2
  simp [hy]
theorem load_runO {P : Program} {o : Oper} {a : Act} {w : World} {ty : TypeId} {y : Operand} {g off : Nat} {L : List Value} {d : TypeDesc} (ho : o.op = .load ty y) (hx : a.eval y = .pointer (some ⟨g, off, none⟩)) (h : w.rangeAt g off L) (hu : P.underlying ty = some d) (hd : d.isRow = true) (hi : (P.info? ty).map (·.size) = some L.length) :
    (execOp a.eval o).run P w = .ok (.value (.agg L.toArray)) w := by
  unfold execOp
  simp only [ho, hx, Instr.loadAt, Instr.sureAddr, Sem.run_bind, Sem.run_pure, Result.andThen_ok, run_loadVar_mid w g off ty L d h hu hd hi]
theorem store_runO {P : Program} {o : Oper} {a : Act} {w : World} {ty : TypeId} {x y : Operand} {g off : Nat} {L : List Value} (ho : o.op = .store ty x y) (hx : a.eval x = .pointer (some ⟨g, off, none⟩)) (hy : a.eval y = .agg L.toArray)
    (ht : w.there g off L.length) (hi : (P.info? ty).map (·.size) = some L.length) (h1 : ∀ v ∈ L, v.oneCell' = true) :
    (execOp a.eval o).run P w = .ok .skip (w.setCells g off L) := by
  unfold execOp
  simp only [ho, hx, hy, Instr.storeAt, Instr.sureAddr, Sem.run_bind, Sem.run_pure, Result.andThen_ok, run_storeVar_mid w g off ty L.toArray (by rw [List.size_toArray]; exact ht) (by rw [List.size_toArray]; exact hi) (all_oneCell_toArray h1)]

theorem zs_length : zSum.length = 32 := by decide
def named_r10.T : Bool × List (List Nat × List Nat) := (true, [([], []), ([0], [0]), ([], []), ([2], [2]), ([], []), ([4], [4]), ([0, 1], []), ([6, 1, 0, 1], [1, 6]), ([0, 1, 2, 3, 6, 7], []), ([8, 3, 7, 0, 1, 2, 3, 6, 7], [3, 8]), ([0, 1, 2, 3, 4, 5, 6, 7, 8, 9], []), ([10, 5, 9, 0, 1, 2, 3, 4, 5, 6, 7, 8, 9], [5, 10])])
def named_r10.B : List Nat := [0, 1, 0, 4, 0, 16, 3, 67, 207, 463, 1023, 2047]
theorem named_r10.tab : rtab .any (opsOf Try.f33 10) = named_r10.T := by kernel_rfl
theorem named_r10.bits : waitsOk named_r10.T.2 named_r10.B = true := by kernel_rfl
def named_r10.l0 : Array Bool := bl 12 1
def named_r10.l1 : Array Bool := bl 12 3
def named_r10.l2 : Array Bool := bl 12 7
def named_r10.l3 : Array Bool := bl 12 15
def named_r10.l4 : Array Bool := bl 12 31
def named_r10.l5 : Array Bool := bl 12 63
def named_r10.l6 : Array Bool := bl 12 127
def named_r10.l7 : Array Bool := bl 12 255
def named_r10.l8 : Array Bool := bl 12 511
def named_r10.l9 : Array Bool := bl 12 1023
def named_r10.l10 : Array Bool := bl 12 2047
def named_r10.l11 : Array Bool := bl 12 4095
set_option maxRecDepth 100000 in
set_option maxHeartbeats 16000000 in
theorem named_3 (x : Ext) (A : Option Addr) (c : Nat) (hk : x.kind = 3) (hx : x.sum.length = 32) (w : World) :
    Calls Try.prog 33 #[.agg (x.cells A c).toArray] w fun e w' => e = .returned (.agg ({ ext0 3 x.who with sum := x.sum }.cells none 0).toArray) ∧ Below w.heap.size w w' := by
  obtain ⟨X, hX⟩ : ∃ X, X = (x.cells A c).toArray := ⟨_, rfl⟩
  obtain ⟨Z, hZ⟩ : ∃ Z, Z = (ext0 0 0).cells none 0 := ⟨_, rfl⟩
  obtain ⟨Y, hY⟩ : ∃ Y, Y = (ext0 3 x.who).cells none 0 := ⟨_, rfl⟩
  have hZl : Z.length = 49 := by rw [hZ]; rfl
  have hYl : Y.length = 49 := by rw [hY]; rfl
  have hYo : ∀ v ∈ Y, v.oneCell' = true := by rw [hY]; exact Ext.cells_one _ _ _
  have hal : ∀ w, (zeroValue 33).run Try.prog w = .ok (.agg Z.toArray) w := fun w => by rw [hZ]; exact zero_ext w
  have hbr : ∀ w, (Instr.build 33 #[(0, .int .i64 3), (1, .int .i64 x.who)]).run Try.prog w = .ok (.agg Y.toArray) w := fun w => run_build w _ _ _ (by rw [hY]; exact built_ext 3 x.who)
  rw [← hX]
  have HX := Aside0.mk hX
  have HY := Aside0.mk hY
  have Hx := Aside0.mk hx
  have HZl := Aside0.mk hZl
  have HYl := Aside0.mk hYl
  have HYo := Aside0.mk hYo
  have HK := Aside0.mk hk
  clear hX hY hx hZ hZl hYl hYo hk
  go_enter Try.func33, Try.ntmps33
  go_upto_region 1 with (first
    | ((with_reducible refine gate_dst (N := 1) rfl ?_); refine box_event ?hg (N := 1) ?hd (cs := X) (t := 33) ?hr ?_; (case hd => rfl); (case hg => rfl); (case hr => first | (go_simp; done) | (go_simp; rfl)); intro g1 hg1 w1 hbox1 hb1; have BX1 := Aside0.mk (rangeAt_box (HX.out ▸ hbox1)); have HXlt := Aside0.mk (blk_lt hbox1); have HB1 := Aside0.mk hb1; clear hg1 hbox1 hb1)
    | ((with_reducible refine gate_dst (N := 2) rfl ?_); refine box_event ?hg (N := 2) ?hd (cs := Z.toArray) (t := 33) ?hr ?_; (case hd => rfl); (case hg => rfl); (case hr => first | (simp [execOp, Instr.alloc, hal, newVar, newRow, go_sem]; done) | (simp [execOp, Instr.alloc, hal, newVar, newRow, go_sem]; rfl)); intro g2 hg2 w2 hbox2 hb2; have G2 := Aside0.mk hg2; have BZ2 := Aside0.mk (there_box hbox2); have HZlt := Aside0.mk (blk_lt hbox2); have HB2 := Aside0.mk hb2; clear hg2 hbox2 hb2))
  obtain ⟨p0, p1, p2, p3, p4, p5, p6⟩ := x.at_head A c (rangeAt_below BX1.out HB2.out HXlt.out)
  rw [HK.out] at p0
  go_upto_region 2 with (first
    | ((with_reducible refine gate_dst (N := 8) rfl ?_); refine Kd.event_run (v := .agg Y.toArray) (w1 := w2) rfl (by first | (simp [execOp, hbr, go_sem]; done) | (simp [execOp, hbr, go_sem]; rw [HY.out]; rfl)) ?_)
    | ((with_reducible refine gate_dst (N := 3) rfl ?_); refine box_event ?hg (N := 3) ?hd (cs := Z.toArray) (t := 33) ?hr ?_; (case hd => rfl); (case hg => rfl); (case hr => first | (simp [execOp, Instr.alloc, hal, newVar, newRow, go_sem]; done) | (simp [execOp, Instr.alloc, hal, newVar, newRow, go_sem]; rfl)); intro g3 hg3 w3 hbox3 hb3; have G3 := Aside0.mk hg3; have BZ3 := Aside0.mk (there_box hbox3); have HYlt := Aside0.mk (blk_lt hbox3); have HB3 := Aside0.mk hb3; clear hg3 hbox3 hb3)
    | ((with_reducible refine gate_store (t := 33) (p := 3) rfl ?_); refine wpList_store_mid rfl 33 _ _ rfl g3 0 Y.toArray rfl rfl (by rw [List.size_toArray, HYl.out, ← HZl.out]; exact BZ3.out) (by rw [List.size_toArray, HYl.out]; exact info_ext') (all_oneCell_toArray HYo.out) ?_))
  have ne13 : g1 ≠ g3 := by have := G3.out; have := HB2.out.size; have := HXlt.out; omega
  have ne23 : g2 ≠ g3 := by have := G3.out; have := HZlt.out; omega
  have BX3 := rangeAt_below (rangeAt_below BX1.out HB2.out HXlt.out) HB3.out (by have := HB2.out.size; have := HXlt.out; omega)
  have BX4 := Aside0.mk (World.rangeAt_setCells_apart BX3 g3 0 Y (.inl ne13))
  have BY4 := Aside0.mk (World.rangeAt_setCells_same w3 g3 0 Y (by rw [HYl.out, ← HZl.out]; exact BZ3.out))
  have TY4 := Aside0.mk (World.there_setCells BZ3.out g3 0 Y)
  have TZ3 : w3.there g2 0 Z.length := fun j hj => ⟨by rw [HB3.out.cell (p := ⟨g2, 0 + j, none⟩) HZlt.out]; exact (BZ2.out j hj).1, by rw [HB3.out.frozen (p := ⟨g2, 0 + j, none⟩) HZlt.out]; exact (BZ2.out j hj).2⟩
  have TZ4 := Aside0.mk (World.there_setCells TZ3 g3 0 Y)
  have HB3a := below_step (below_step HB1.out HB2.out) HB3.out
  have HB4 := Aside0.mk (below_setCells g3 (by have := G3.out; have := (below_step HB1.out HB2.out).size; omega) Y 0 w3 HB3a)
  have s1 : w.heap.size ≤ g2 := by have := G2.out; have := HB1.out.size; omega
  have s2 : w.heap.size ≤ g3 := by have := G3.out; have := (below_step HB1.out HB2.out).size; omega
  clear BX3 TZ3 HB3a p0 p1 p2 p3 p4 p5 p6
  generalize w3.setCells g3 0 Y = w4 at BX4 BY4 TY4 TZ4 HB4 ⊢
  obtain ⟨p0, p1, p2, p3, p4, p5, p6⟩ := x.at_head A c BX4.out
  rw [HK.out] at p0
  have LY4 : Lies w4 g3 Y := ⟨BY4.out, by have := TY4.out; rwa [HZl.out, ← HYl.out] at this⟩
  obtain ⟨SL, hSL⟩ : ∃ SL, SL = x.sum.map cell := ⟨_, rfl⟩
  have hSLl : SL.length = 32 := by rw [hSL, List.length_map]; exact Hx.out
  have hSLo : ∀ v ∈ SL, v.oneCell' = true := by rw [hSL]; intro v hv; obtain ⟨b, _, rfl⟩ := List.mem_map.1 hv; rfl
  have hRS : w4.rangeAt g1 7 SL := by rw [hSL]; exact x.at_sum A c BX4.out
  have HSL := Aside0.mk hSL
  have HSLl := Aside0.mk hSLl
  have HSLo := Aside0.mk hSLo
  have HRS := Aside0.mk hRS
  have HLY4 := Aside0.mk LY4
  clear hSL hSLl hSLo hRS LY4
  go_upto_region 22 with (first
    | ((with_reducible refine gate_dst (N := 27) rfl ?_); refine wpList_load_mid rfl 29 _ rfl g1 7 rfl SL _ HRS.out Try.underlying29 rfl (by rw [HSLl.out]; exact info_hash) ?_)
    | ((with_reducible refine gate_store (t := 29) (p := 28) rfl ?_); refine wpList_store_mid rfl 29 _ _ rfl g3 7 SL.toArray rfl rfl (by rw [List.size_toArray, HSLl.out]; exact HLY4.out.part_there 7 32 (by rw [HYl.out]; decide)) (by rw [List.size_toArray, HSLl.out]; exact info_hash) (all_oneCell_toArray HSLo.out) ?_))
  have n0_ := HLY4.out.splice 7 SL (by rw [HSLl.out, HYl.out]; decide)
  have TZ5 := Aside0.mk (World.there_setCells TZ4.out g3 7 SL)
  have HB5 := Aside0.mk (below_setCells g3 s2 SL 7 w4 HB4.out)
  generalize World.setCells _ _ _ _ = w5 at n0_ TZ5 HB5 ⊢
  rw [HSL.out, HY.out, cells_sum (ext0 3 x.who) x.sum none 0 zs_length Hx.out] at n0_
  obtain ⟨L, hL⟩ : ∃ L, L = ({ ext0 3 x.who with sum := x.sum } : Ext).cells none 0 := ⟨_, rfl⟩
  have HLl := Aside0.mk (by rw [hL]; exact Ext.cells_length _ _ _ Hx.out : L.length = 49)
  have HLo := Aside0.mk (by rw [hL]; exact Ext.cells_one _ _ _ : ∀ v ∈ L, v.oneCell' = true)
  have BY5 : Aside0 (w5.rangeAt g3 0 L) := ⟨by rw [hL]; exact n0_.range⟩
  have HL := Aside0.mk hL
  clear hL
  go_wp2_with (first
    | ((with_reducible refine gate_dst (N := 75) rfl ?_); refine wpList_load_mid rfl 33 _ rfl g3 0 rfl L _ BY5.out Try.underlying33 rfl (by rw [HLl.out]; exact info_ext') ?_)
    | ((with_reducible refine gate_store (t := 33) (p := 2) rfl ?_); refine wpList_store_mid rfl 33 _ _ rfl g2 0 L.toArray rfl rfl (by rw [List.size_toArray, HLl.out, ← HZl.out]; exact TZ5.out) (by rw [List.size_toArray, HLl.out]; exact info_ext') (all_oneCell_toArray HLo.out) ?_))
  have BR := World.rangeAt_setCells_same w5 g2 0 L (by rw [HLl.out, ← HZl.out]; exact TZ5.out)
  have hres := run_loadVar_mid (P := Try.prog) (w5.setCells g2 0 L) g2 0 33 L _ BR Try.underlying33 rfl (by rw [HLl.out]; exact info_ext')
  refine bodyPost_ret (v := .agg L.toArray) (results_cell rfl _ rfl hres) rfl ?_
  exact ⟨by rw [HL.out]; first | done | rfl, below_setCells g2 s1 L 0 w5 HB5.out⟩

set_option maxRecDepth 100000 in
set_option maxHeartbeats 16000000 in
theorem named_4 (x : Ext) (A : Option Addr) (c : Nat) (hk : x.kind = 4) (hx : x.sum.length = 32) (w : World) :
    Calls Try.prog 33 #[.agg (x.cells A c).toArray] w fun e w' => e = .returned (.agg ({ ext0 4 x.who with track := x.track, sum := x.sum, amt := x.amt }.cells none 0).toArray) ∧ Below w.heap.size w w' := by
  obtain ⟨X, hX⟩ : ∃ X, X = (x.cells A c).toArray := ⟨_, rfl⟩
  obtain ⟨Z, hZ⟩ : ∃ Z, Z = (ext0 0 0).cells none 0 := ⟨_, rfl⟩
  obtain ⟨Y, hY⟩ : ∃ Y, Y = (ext0 4 x.who).cells none 0 := ⟨_, rfl⟩
  have hZl : Z.length = 49 := by rw [hZ]; rfl
  have hYl : Y.length = 49 := by rw [hY]; rfl
  have hYo : ∀ v ∈ Y, v.oneCell' = true := by rw [hY]; exact Ext.cells_one _ _ _
  have hal : ∀ w, (zeroValue 33).run Try.prog w = .ok (.agg Z.toArray) w := fun w => by rw [hZ]; exact zero_ext w
  have hbr : ∀ w, (Instr.build 33 #[(0, .int .i64 4), (1, .int .i64 x.who)]).run Try.prog w = .ok (.agg Y.toArray) w := fun w => run_build w _ _ _ (by rw [hY]; exact built_ext 4 x.who)
  rw [← hX]
  have HX := Aside0.mk hX
  have HY := Aside0.mk hY
  have Hx := Aside0.mk hx
  have HZl := Aside0.mk hZl
  have HYl := Aside0.mk hYl
  have HYo := Aside0.mk hYo
  have HK := Aside0.mk hk
  clear hX hY hx hZ hZl hYl hYo hk
  go_enter Try.func33, Try.ntmps33
  go_upto_region 1 with (first
    | ((with_reducible refine gate_dst (N := 1) rfl ?_); refine box_event ?hg (N := 1) ?hd (cs := X) (t := 33) ?hr ?_; (case hd => rfl); (case hg => rfl); (case hr => first | (go_simp; done) | (go_simp; rfl)); intro g1 hg1 w1 hbox1 hb1; have BX1 := Aside0.mk (rangeAt_box (HX.out ▸ hbox1)); have HXlt := Aside0.mk (blk_lt hbox1); have HB1 := Aside0.mk hb1; clear hg1 hbox1 hb1)
    | ((with_reducible refine gate_dst (N := 2) rfl ?_); refine box_event ?hg (N := 2) ?hd (cs := Z.toArray) (t := 33) ?hr ?_; (case hd => rfl); (case hg => rfl); (case hr => first | (simp [execOp, Instr.alloc, hal, newVar, newRow, go_sem]; done) | (simp [execOp, Instr.alloc, hal, newVar, newRow, go_sem]; rfl)); intro g2 hg2 w2 hbox2 hb2; have G2 := Aside0.mk hg2; have BZ2 := Aside0.mk (there_box hbox2); have HZlt := Aside0.mk (blk_lt hbox2); have HB2 := Aside0.mk hb2; clear hg2 hbox2 hb2))
  obtain ⟨p0, p1, p2, p3, p4, p5, p6⟩ := x.at_head A c (rangeAt_below BX1.out HB2.out HXlt.out)
  rw [HK.out] at p0
  go_upto_region 2 with (first
    | ((with_reducible refine gate_dst (N := 8) rfl ?_); refine Kd.event_run (v := .agg Y.toArray) (w1 := w2) rfl (by first | (simp [execOp, hbr, go_sem]; done) | (simp [execOp, hbr, go_sem]; rw [HY.out]; rfl)) ?_)
    | ((with_reducible refine gate_dst (N := 3) rfl ?_); refine box_event ?hg (N := 3) ?hd (cs := Z.toArray) (t := 33) ?hr ?_; (case hd => rfl); (case hg => rfl); (case hr => first | (simp [execOp, Instr.alloc, hal, newVar, newRow, go_sem]; done) | (simp [execOp, Instr.alloc, hal, newVar, newRow, go_sem]; rfl)); intro g3 hg3 w3 hbox3 hb3; have G3 := Aside0.mk hg3; have BZ3 := Aside0.mk (there_box hbox3); have HYlt := Aside0.mk (blk_lt hbox3); have HB3 := Aside0.mk hb3; clear hg3 hbox3 hb3)
    | ((with_reducible refine gate_store (t := 33) (p := 3) rfl ?_); refine wpList_store_mid rfl 33 _ _ rfl g3 0 Y.toArray rfl rfl (by rw [List.size_toArray, HYl.out, ← HZl.out]; exact BZ3.out) (by rw [List.size_toArray, HYl.out]; exact info_ext') (all_oneCell_toArray HYo.out) ?_))
  have ne13 : g1 ≠ g3 := by have := G3.out; have := HB2.out.size; have := HXlt.out; omega
  have ne23 : g2 ≠ g3 := by have := G3.out; have := HZlt.out; omega
  have BX3 := rangeAt_below (rangeAt_below BX1.out HB2.out HXlt.out) HB3.out (by have := HB2.out.size; have := HXlt.out; omega)
  have BX4 := Aside0.mk (World.rangeAt_setCells_apart BX3 g3 0 Y (.inl ne13))
  have BY4 := Aside0.mk (World.rangeAt_setCells_same w3 g3 0 Y (by rw [HYl.out, ← HZl.out]; exact BZ3.out))
  have TY4 := Aside0.mk (World.there_setCells BZ3.out g3 0 Y)
  have TZ3 : w3.there g2 0 Z.length := fun j hj => ⟨by rw [HB3.out.cell (p := ⟨g2, 0 + j, none⟩) HZlt.out]; exact (BZ2.out j hj).1, by rw [HB3.out.frozen (p := ⟨g2, 0 + j, none⟩) HZlt.out]; exact (BZ2.out j hj).2⟩
  have TZ4 := Aside0.mk (World.there_setCells TZ3 g3 0 Y)
  have HB3a := below_step (below_step HB1.out HB2.out) HB3.out
  have HB4 := Aside0.mk (below_setCells g3 (by have := G3.out; have := (below_step HB1.out HB2.out).size; omega) Y 0 w3 HB3a)
  have s1 : w.heap.size ≤ g2 := by have := G2.out; have := HB1.out.size; omega
  have s2 : w.heap.size ≤ g3 := by have := G3.out; have := (below_step HB1.out HB2.out).size; omega
  clear BX3 TZ3 HB3a p0 p1 p2 p3 p4 p5 p6
  generalize w3.setCells g3 0 Y = w4 at BX4 BY4 TY4 TZ4 HB4 ⊢
  obtain ⟨p0, p1, p2, p3, p4, p5, p6⟩ := x.at_head A c BX4.out
  rw [HK.out] at p0
  have LY4 : Lies w4 g3 Y := ⟨BY4.out, by have := TY4.out; rwa [HZl.out, ← HYl.out] at this⟩
  obtain ⟨SL, hSL⟩ : ∃ SL, SL = x.sum.map cell := ⟨_, rfl⟩
  have hSLl : SL.length = 32 := by rw [hSL, List.length_map]; exact Hx.out
  have hSLo : ∀ v ∈ SL, v.oneCell' = true := by rw [hSL]; intro v hv; obtain ⟨b, _, rfl⟩ := List.mem_map.1 hv; rfl
  have hRS : w4.rangeAt g1 7 SL := by rw [hSL]; exact x.at_sum A c BX4.out
  have HSL := Aside0.mk hSL
  have HSLl := Aside0.mk hSLl
  have HSLo := Aside0.mk hSLo
  have HRS := Aside0.mk hRS
  have HLY4 := Aside0.mk LY4
  clear hSL hSLl hSLo hRS LY4
  obtain ⟨XL, hXL⟩ : ∃ XL, XL = x.cells A c := ⟨_, rfl⟩
  have HXR : Aside0 (w4.rangeAt g1 0 XL) := ⟨by rw [hXL]; exact BX4.out⟩
  have HCA := Aside0.mk (fun (w' : World) (h : w'.rangeAt g1 0 XL) => x.at_head A c (hXL ▸ h))
  have HCS : Aside0 (∀ (w' : World), w'.rangeAt g1 0 XL → w'.rangeAt g1 7 SL) := ⟨fun w' h => by rw [HSL.out]; exact x.at_sum A c (hXL ▸ h)⟩
  have HXL := Aside0.mk hXL
  clear hXL
  have c5 : w4.cell? ⟨g3, 5, none⟩ = some (.int .i64 0) := HLY4.out.cell (by rw [HY.out]; rfl)
  have f5 : w4.frozen? ⟨g3, 5, none⟩ = false := HLY4.out.frozen 5 (by rw [HYl.out]; decide)
  go_upto_region 10 with (fail)
  refine start_ (n := 12) (S := fun w' => w'.rangeAt g1 0 XL) (ds := []) #[false, false, false, false, false, false, false, false, false, false, false, false] (by kernel_rfl) rfl rfl ((World.rangeAt_drew _ _ _ _).2 HXR.out) (fun hHeld => ?_)
  refine with_tabW named_r10.tab named_r10.bits (fun HT_ HW_ => ?_)
  refine pu HT_ 0 (some 31) named_r10.l0 (h := ?_)
  refine tk HT_ HW_ hHeld 1 (some 32) named_r10.l1 (hr := by intro w' hs_; have c_ := HCA.out w' hs_; obtain ⟨_, _, _, _, _, c_, _⟩ := c_; go_simp; with_reducible rfl) (h := ?_)
  refine pu HT_ 2 (some 33) named_r10.l2 (h := ?_)
  refine tk HT_ HW_ hHeld 3 (some 34) named_r10.l3 (hr := by intro w' hs_; refine load_runO (ty := 29) (y := .tmp 33) (g := g1) (off := 7) (L := SL) ?_ ?_ (HCS.out w' hs_) Try.underlying29 rfl (by rw [HSLl.out]; exact info_hash) <;> rfl) (h := ?_)
  refine pu HT_ 4 (some 35) named_r10.l4 (h := ?_)
  refine tk HT_ HW_ hHeld 5 (some 36) named_r10.l5 (hr := by intro w' hs_; have c_ := HCA.out w' hs_; obtain ⟨_, _, _, c_, _, _, _⟩ := c_; go_simp; with_reducible rfl) (h := ?_)
  refine pu HT_ 6 (some 37) named_r10.l6 (h := ?_)
  refine one_ (i := 7) (N := none) named_r10.l7 rfl rfl (one_of HT_.out (by kernel_rfl)) (by decide) (fun K hK => ?_)
  refine skip_ (w1 := w4.drew.setCell ⟨g3, 5, none⟩ (.int .i64 x.track)) (by rfl) rfl ?_ ?_
  · go_simp
  have n0_ := (HLY4.out.drew).set 5 (by rw [HYl.out]; decide) (.int .i64 x.track)
  have TZa := Aside0.mk (there_setCell ((World.there_drew _ _ _ _).2 TZ4.out) g3 5 (.int .i64 x.track))
  have HBa := Aside0.mk ((below_drew HB4.out).setCell (p := ⟨g3, 5, none⟩) s2 (.int .i64 x.track))
  have hHeld := far_range hHeld (fun e => ne13 e) 5 (.int .i64 x.track)
  refine hK.out _ _ hHeld (fun hHeld => ?_)
  clear hK K
  generalize World.setCell _ _ _ = wa at n0_ TZa HBa hHeld ⊢
  rw [HY.out, show ((ext0 4 x.who).cells none 0).set 5 (.int .i64 x.track) = ({ ext0 4 x.who with track := x.track } : Ext).cells none 0 from rfl] at n0_
  have HLa := Aside0.mk n0_
  clear n0_
  refine pu HT_ 8 (some 38) named_r10.l8 (h := ?_)
  refine one_ (i := 9) (N := none) named_r10.l9 rfl rfl (one_of HT_.out (by kernel_rfl)) (by decide) (fun K hK => ?_)
  refine skip_ (w1 := wa.setCells g3 7 SL) (by rfl) rfl ?_ ?_
  · exact store_runO (x := .tmp 38) (y := .tmp 34) rfl rfl rfl (by rw [HSLl.out]; exact HLa.out.part_there 7 32 (by rw [Ext.cells_length _ _ _ zs_length]; decide)) (by rw [HSLl.out]; exact info_hash) HSLo.out
  have n0_ := HLa.out.splice 7 SL (by rw [HSLl.out, Ext.cells_length _ _ _ zs_length]; decide)
  have TZb := Aside0.mk (World.there_setCells TZa.out g3 7 SL)
  have HBb := Aside0.mk (below_setCells g3 s2 SL 7 wa HBa.out)
  have hHeld := World.rangeAt_setCells_apart hHeld g3 7 SL (.inl ne13)
  refine hK.out _ _ hHeld (fun hHeld => ?_)
  clear hK K
  generalize World.setCells _ _ _ _ = wb at n0_ TZb HBb hHeld ⊢
  rw [HSL.out, cells_sum _ x.sum none 0 zs_length Hx.out] at n0_
  obtain ⟨Eb, hEb⟩ : ∃ E : Ext, E = ({ ({ ext0 4 x.who with track := x.track } : Ext) with sum := x.sum } : Ext) := ⟨_, rfl⟩
  have n1_ : Lies wb g3 (Eb.cells none 0) := by rw [hEb]; exact n0_
  have hEl : 3 < (Eb.cells none 0).length := by rw [Ext.cells_length _ _ _ (by rw [hEb]; exact Hx.out)]; decide
  have cb3 := n1_.cell (i := 3) (v := .int .i64 0) (by rw [hEb]; rfl)
  have fb3 := n1_.frozen 3 hEl
  have HLb := Aside0.mk n1_
  have HEb := Aside0.mk hEb
  have HEl := Aside0.mk hEl
  clear n0_ n1_ hEb hEl
  refine pu HT_ 10 (some 39) named_r10.l10 (h := ?_)
  refine one_ (i := 11) (N := none) named_r10.l11 rfl rfl (one_of HT_.out (by kernel_rfl)) (by decide) (fun K hK => ?_)
  refine skip_ (w1 := wb.setCell ⟨g3, 3, none⟩ (.int .i64 x.amt)) (by rfl) rfl ?_ ?_
  · go_simp
  have n0_ := HLb.out.set 3 HEl.out (.int .i64 x.amt)
  have TZ5 := Aside0.mk (there_setCell TZb.out g3 3 (.int .i64 x.amt))
  have HB5 := Aside0.mk (HBb.out.setCell (p := ⟨g3, 3, none⟩) s2 (.int .i64 x.amt))
  have hHeld := far_range hHeld (fun e => ne13 e) 3 (.int .i64 x.amt)
  refine hK.out _ _ hHeld (fun hHeld => ?_)
  clear hK K
  generalize World.setCell _ _ _ = w5 at n0_ TZ5 HB5 hHeld ⊢
  refine done_ (done_of HT_.out (by kernel_rfl)) ?_
  clear HT_ HW_
  rw [HEb.out, show (({ ({ ext0 4 x.who with track := x.track } : Ext) with sum := x.sum } : Ext).cells none 0).set 3 (.int .i64 x.amt) = ({ ext0 4 x.who with track := x.track, sum := x.sum, amt := x.amt } : Ext).cells none 0 from rfl] at n0_
  obtain ⟨L, hL⟩ : ∃ L, L = ({ ext0 4 x.who with track := x.track, sum := x.sum, amt := x.amt } : Ext).cells none 0 := ⟨_, rfl⟩
  have HLl := Aside0.mk (by rw [hL]; exact Ext.cells_length _ _ _ Hx.out : L.length = 49)
  have HLo := Aside0.mk (by rw [hL]; exact Ext.cells_one _ _ _ : ∀ v ∈ L, v.oneCell' = true)
  have BY5 : Aside0 (w5.rangeAt g3 0 L) := ⟨by rw [hL]; exact n0_.range⟩
  have HL := Aside0.mk hL
  clear hL
  go_wp2_with (first
    | ((with_reducible refine gate_dst (N := 75) rfl ?_); refine wpList_load_mid rfl 33 _ rfl g3 0 rfl L _ BY5.out Try.underlying33 rfl (by rw [HLl.out]; exact info_ext') ?_)
    | ((with_reducible refine gate_store (t := 33) (p := 2) rfl ?_); refine wpList_store_mid rfl 33 _ _ rfl g2 0 L.toArray rfl rfl (by rw [List.size_toArray, HLl.out, ← HZl.out]; exact TZ5.out) (by rw [List.size_toArray, HLl.out]; exact info_ext') (all_oneCell_toArray HLo.out) ?_))
  have BR := World.rangeAt_setCells_same w5 g2 0 L (by rw [HLl.out, ← HZl.out]; exact TZ5.out)
  have hres := run_loadVar_mid (P := Try.prog) (w5.setCells g2 0 L) g2 0 33 L _ BR Try.underlying33 rfl (by rw [HLl.out]; exact info_ext')
  refine bodyPost_ret (v := .agg L.toArray) (results_cell rfl _ rfl hres) rfl ?_
  exact ⟨by rw [HL.out]; first | done | rfl, below_setCells g2 s1 L 0 w5 HB5.out⟩

set_option maxRecDepth 100000 in
set_option maxHeartbeats 16000000 in
theorem named_no (x : Ext) (A : Option Addr) (c : Nat) (hk : ¬ (1 ≤ x.kind ∧ x.kind ≤ 11)) (hx : x.sum.length = 32) (w : World) :
    Calls Try.prog 33 #[.agg (x.cells A c).toArray] w fun e w' => e = .returned (.agg ((ext0 x.kind x.who).cells none 0).toArray) ∧ Below w.heap.size w w' := by
  obtain ⟨X, hX⟩ : ∃ X, X = (x.cells A c).toArray := ⟨_, rfl⟩
  obtain ⟨Z, hZ⟩ : ∃ Z, Z = (ext0 0 0).cells none 0 := ⟨_, rfl⟩
  obtain ⟨Y, hY⟩ : ∃ Y, Y = (ext0 x.kind x.who).cells none 0 := ⟨_, rfl⟩
  have hZl : Z.length = 49 := by rw [hZ]; rfl
  have hYl : Y.length = 49 := by rw [hY]; rfl
  have hYo : ∀ v ∈ Y, v.oneCell' = true := by rw [hY]; exact Ext.cells_one _ _ _
  have hal : ∀ w, (zeroValue 33).run Try.prog w = .ok (.agg Z.toArray) w := fun w => by rw [hZ]; exact zero_ext w
  have hbr : ∀ w, (Instr.build 33 #[(0, .int .i64 x.kind), (1, .int .i64 x.who)]).run Try.prog w = .ok (.agg Y.toArray) w := fun w => run_build w _ _ _ (by rw [hY]; exact built_ext x.kind x.who)
  rw [← hX]
  have HX := Aside0.mk hX
  have HY := Aside0.mk hY
  have Hx := Aside0.mk hx
  have HZl := Aside0.mk hZl
  have HYl := Aside0.mk hYl
  have HYo := Aside0.mk hYo
  have HK := Aside0.mk hk
  clear hX hY hx hZ hZl hYl hYo hk
  go_enter Try.func33, Try.ntmps33
  go_upto_region 1 with (first
    | ((with_reducible refine gate_dst (N := 1) rfl ?_); refine box_event ?hg (N := 1) ?hd (cs := X) (t := 33) ?hr ?_; (case hd => rfl); (case hg => rfl); (case hr => first | (go_simp; done) | (go_simp; rfl)); intro g1 hg1 w1 hbox1 hb1; have BX1 := Aside0.mk (rangeAt_box (HX.out ▸ hbox1)); have HXlt := Aside0.mk (blk_lt hbox1); have HB1 := Aside0.mk hb1; clear hg1 hbox1 hb1)
    | ((with_reducible refine gate_dst (N := 2) rfl ?_); refine box_event ?hg (N := 2) ?hd (cs := Z.toArray) (t := 33) ?hr ?_; (case hd => rfl); (case hg => rfl); (case hr => first | (simp [execOp, Instr.alloc, hal, newVar, newRow, go_sem]; done) | (simp [execOp, Instr.alloc, hal, newVar, newRow, go_sem]; rfl)); intro g2 hg2 w2 hbox2 hb2; have G2 := Aside0.mk hg2; have BZ2 := Aside0.mk (there_box hbox2); have HZlt := Aside0.mk (blk_lt hbox2); have HB2 := Aside0.mk hb2; clear hg2 hbox2 hb2))
  obtain ⟨p0, p1, p2, p3, p4, p5, p6⟩ := x.at_head A c (rangeAt_below BX1.out HB2.out HXlt.out)
  have dk1 : decide (x.kind = 1) = false := decide_eq_false (by have := HK.out; omega)
  have dkb1 : (x.kind == 1) = false := beq_eq_false_iff_ne.2 (by have := HK.out; omega)
  have dk2 : decide (x.kind = 2) = false := decide_eq_false (by have := HK.out; omega)
  have dkb2 : (x.kind == 2) = false := beq_eq_false_iff_ne.2 (by have := HK.out; omega)
  have dk3 : decide (x.kind = 3) = false := decide_eq_false (by have := HK.out; omega)
  have dkb3 : (x.kind == 3) = false := beq_eq_false_iff_ne.2 (by have := HK.out; omega)
  have dk4 : decide (x.kind = 4) = false := decide_eq_false (by have := HK.out; omega)
  have dkb4 : (x.kind == 4) = false := beq_eq_false_iff_ne.2 (by have := HK.out; omega)
  have dk5 : decide (x.kind = 5) = false := decide_eq_false (by have := HK.out; omega)
  have dkb5 : (x.kind == 5) = false := beq_eq_false_iff_ne.2 (by have := HK.out; omega)
  have dk6 : decide (x.kind = 6) = false := decide_eq_false (by have := HK.out; omega)
  have dkb6 : (x.kind == 6) = false := beq_eq_false_iff_ne.2 (by have := HK.out; omega)
  have dk7 : decide (x.kind = 7) = false := decide_eq_false (by have := HK.out; omega)
  have dkb7 : (x.kind == 7) = false := beq_eq_false_iff_ne.2 (by have := HK.out; omega)
  have dk8 : decide (x.kind = 8) = false := decide_eq_false (by have := HK.out; omega)
  have dkb8 : (x.kind == 8) = false := beq_eq_false_iff_ne.2 (by have := HK.out; omega)
  have dk9 : decide (x.kind = 9) = false := decide_eq_false (by have := HK.out; omega)
  have dkb9 : (x.kind == 9) = false := beq_eq_false_iff_ne.2 (by have := HK.out; omega)
  have dk10 : decide (x.kind = 10) = false := decide_eq_false (by have := HK.out; omega)
  have dkb10 : (x.kind == 10) = false := beq_eq_false_iff_ne.2 (by have := HK.out; omega)
  have dk11 : decide (x.kind = 11) = false := decide_eq_false (by have := HK.out; omega)
  have dkb11 : (x.kind == 11) = false := beq_eq_false_iff_ne.2 (by have := HK.out; omega)
  go_upto_region 2 with (first
    | ((with_reducible refine gate_dst (N := 8) rfl ?_); refine Kd.event_run (v := .agg Y.toArray) (w1 := w2) rfl (by first | (simp [execOp, hbr, go_sem]; done) | (simp [execOp, hbr, go_sem]; rw [HY.out]; rfl)) ?_)
    | ((with_reducible refine gate_dst (N := 3) rfl ?_); refine box_event ?hg (N := 3) ?hd (cs := Z.toArray) (t := 33) ?hr ?_; (case hd => rfl); (case hg => rfl); (case hr => first | (simp [execOp, Instr.alloc, hal, newVar, newRow, go_sem]; done) | (simp [execOp, Instr.alloc, hal, newVar, newRow, go_sem]; rfl)); intro g3 hg3 w3 hbox3 hb3; have G3 := Aside0.mk hg3; have BZ3 := Aside0.mk (there_box hbox3); have HYlt := Aside0.mk (blk_lt hbox3); have HB3 := Aside0.mk hb3; clear hg3 hbox3 hb3)
    | ((with_reducible refine gate_store (t := 33) (p := 3) rfl ?_); refine wpList_store_mid rfl 33 _ _ rfl g3 0 Y.toArray rfl rfl (by rw [List.size_toArray, HYl.out, ← HZl.out]; exact BZ3.out) (by rw [List.size_toArray, HYl.out]; exact info_ext') (all_oneCell_toArray HYo.out) ?_))
  have ne13 : g1 ≠ g3 := by have := G3.out; have := HB2.out.size; have := HXlt.out; omega
  have ne23 : g2 ≠ g3 := by have := G3.out; have := HZlt.out; omega
  have BX3 := rangeAt_below (rangeAt_below BX1.out HB2.out HXlt.out) HB3.out (by have := HB2.out.size; have := HXlt.out; omega)
  have BX4 := Aside0.mk (World.rangeAt_setCells_apart BX3 g3 0 Y (.inl ne13))
  have BY4 := Aside0.mk (World.rangeAt_setCells_same w3 g3 0 Y (by rw [HYl.out, ← HZl.out]; exact BZ3.out))
  have TY4 := Aside0.mk (World.there_setCells BZ3.out g3 0 Y)
  have TZ3 : w3.there g2 0 Z.length := fun j hj => ⟨by rw [HB3.out.cell (p := ⟨g2, 0 + j, none⟩) HZlt.out]; exact (BZ2.out j hj).1, by rw [HB3.out.frozen (p := ⟨g2, 0 + j, none⟩) HZlt.out]; exact (BZ2.out j hj).2⟩
  have TZ4 := Aside0.mk (World.there_setCells TZ3 g3 0 Y)
  have HB3a := below_step (below_step HB1.out HB2.out) HB3.out
  have HB4 := Aside0.mk (below_setCells g3 (by have := G3.out; have := (below_step HB1.out HB2.out).size; omega) Y 0 w3 HB3a)
  have s1 : w.heap.size ≤ g2 := by have := G2.out; have := HB1.out.size; omega
  have s2 : w.heap.size ≤ g3 := by have := G3.out; have := (below_step HB1.out HB2.out).size; omega
  clear BX3 TZ3 HB3a p0 p1 p2 p3 p4 p5 p6
  generalize w3.setCells g3 0 Y = w4 at BX4 BY4 TY4 TZ4 HB4 ⊢
  obtain ⟨p0, p1, p2, p3, p4, p5, p6⟩ := x.at_head A c BX4.out
  have dk1 : decide (x.kind = 1) = false := decide_eq_false (by have := HK.out; omega)
  have dkb1 : (x.kind == 1) = false := beq_eq_false_iff_ne.2 (by have := HK.out; omega)
  have dk2 : decide (x.kind = 2) = false := decide_eq_false (by have := HK.out; omega)
  have dkb2 : (x.kind == 2) = false := beq_eq_false_iff_ne.2 (by have := HK.out; omega)
  have dk3 : decide (x.kind = 3) = false := decide_eq_false (by have := HK.out; omega)
  have dkb3 : (x.kind == 3) = false := beq_eq_false_iff_ne.2 (by have := HK.out; omega)
  have dk4 : decide (x.kind = 4) = false := decide_eq_false (by have := HK.out; omega)
  have dkb4 : (x.kind == 4) = false := beq_eq_false_iff_ne.2 (by have := HK.out; omega)
  have dk5 : decide (x.kind = 5) = false := decide_eq_false (by have := HK.out; omega)
  have dkb5 : (x.kind == 5) = false := beq_eq_false_iff_ne.2 (by have := HK.out; omega)
  have dk6 : decide (x.kind = 6) = false := decide_eq_false (by have := HK.out; omega)
  have dkb6 : (x.kind == 6) = false := beq_eq_false_iff_ne.2 (by have := HK.out; omega)
  have dk7 : decide (x.kind = 7) = false := decide_eq_false (by have := HK.out; omega)
  have dkb7 : (x.kind == 7) = false := beq_eq_false_iff_ne.2 (by have := HK.out; omega)
  have dk8 : decide (x.kind = 8) = false := decide_eq_false (by have := HK.out; omega)
  have dkb8 : (x.kind == 8) = false := beq_eq_false_iff_ne.2 (by have := HK.out; omega)
  have dk9 : decide (x.kind = 9) = false := decide_eq_false (by have := HK.out; omega)
  have dkb9 : (x.kind == 9) = false := beq_eq_false_iff_ne.2 (by have := HK.out; omega)
  have dk10 : decide (x.kind = 10) = false := decide_eq_false (by have := HK.out; omega)
  have dkb10 : (x.kind == 10) = false := beq_eq_false_iff_ne.2 (by have := HK.out; omega)
  have dk11 : decide (x.kind = 11) = false := decide_eq_false (by have := HK.out; omega)
  have dkb11 : (x.kind == 11) = false := beq_eq_false_iff_ne.2 (by have := HK.out; omega)
  go_upto_region 22 with (fail)
  obtain ⟨w5, hw5⟩ : ∃ w5, w5 = w4 := ⟨_, rfl⟩
  rw [← hw5]
  have TZ5 : Aside0 (w5.there g2 0 Z.length) := ⟨by rw [hw5]; exact TZ4.out⟩
  have HB5 : Aside0 (Below w.heap.size w w5) := ⟨by rw [hw5]; exact HB4.out⟩
  have n0_ : w5.rangeAt g3 0 ((ext0 x.kind x.who).cells none 0) := by rw [hw5, ← HY.out]; exact BY4.out
  clear hw5
  obtain ⟨L, hL⟩ : ∃ L, L = ({ ext0 x.kind x.who with kind := x.kind } : Ext).cells none 0 := ⟨_, rfl⟩
  have HLl := Aside0.mk (by rw [hL]; exact Ext.cells_length _ _ _ zs_length : L.length = 49)
  have HLo := Aside0.mk (by rw [hL]; exact Ext.cells_one _ _ _ : ∀ v ∈ L, v.oneCell' = true)
  have BY5 : Aside0 (w5.rangeAt g3 0 L) := ⟨by rw [hL]; exact n0_⟩
  have HL := Aside0.mk hL
  clear hL
  go_wp2_with (first
    | ((with_reducible refine gate_dst (N := 75) rfl ?_); refine wpList_load_mid rfl 33 _ rfl g3 0 rfl L _ BY5.out Try.underlying33 rfl (by rw [HLl.out]; exact info_ext') ?_)
    | ((with_reducible refine gate_store (t := 33) (p := 2) rfl ?_); refine wpList_store_mid rfl 33 _ _ rfl g2 0 L.toArray rfl rfl (by rw [List.size_toArray, HLl.out, ← HZl.out]; exact TZ5.out) (by rw [List.size_toArray, HLl.out]; exact info_ext') (all_oneCell_toArray HLo.out) ?_))
  have BR := World.rangeAt_setCells_same w5 g2 0 L (by rw [HLl.out, ← HZl.out]; exact TZ5.out)
  have hres := run_loadVar_mid (P := Try.prog) (w5.setCells g2 0 L) g2 0 33 L _ BR Try.underlying33 rfl (by rw [HLl.out]; exact info_ext')
  refine bodyPost_ret (v := .agg L.toArray) (results_cell rfl _ rfl hres) rfl ?_
  exact ⟨by rw [HL.out]; first | done | rfl, below_setCells g2 s1 L 0 w5 HB5.out⟩

end Go.Proofs.Ytilckocpgififaa.G
