/- refer.New of the laws' two tracks. -/
import Derived.Test.YtockdfnnhkhlkaaGreatCnZTracks
import Derived.Test.YtockdfnnhkhlkaaGreatCnZGrid
import Derived.Test.YtockdfnnhkhlkaaGreatCnGx4
import Derived.Lib.SliceRun
import Derived.Test.YtockdfnnhkhlkaaGreatCnGx0
import Derived.Deep.RegionHeld3
import Derived.Test.YtockdfnnhkhlkaaGreatCnZLoad
import Derived.Test.YtockdfnnhkhlkaaGreatCnGx1
import Derived.Laws.MakeOwn
namespace Go.Proofs.YtockdfnnhkhlkaaGreat.G
open Go.RowKit Go.Shelf Go.Proofs.YtockdfnnhkhlkaaGreatW.PrintWords Go.Proofs.YtockdfnnhkhlkaaGreatW.PrintLast Go.Proofs.YtockdfnnhkhlkaaGreatW.PrintMore
set_option linter.unusedVariables false
set_option linter.unusedSimpArgs false

theorem info_trackz : (Tryz.prog.info? 84).map (fun i => (i.zero, i.size, i.bytes)) = some (some (.agg trkZ.toArray), 18, 144) := by kernel_rfl
theorem isA (w : World) : Calls Tryz.prog 25 #[.agg trkA.toArray] w fun e w' => e = .returned (.bool true) ∧ Below w.heap.size w w' :=
  track_Is.calls 3 2 20 1 6 2 2 1 500000000 500000000 1 0 1 10000000 10000000 1 0 50 0 true w (by decide)
theorem isB (w : World) : Calls Tryz.prog 25 #[.agg trkB.toArray] w fun e w' => e = .returned (.bool true) ∧ Below w.heap.size w w' :=
  track_Is.calls 3 1 20 1 6 2 0 1 500000000 500000000 1 0 1 10000000 10000000 1 0 1000 2 true w (by decide)

/-- The two tracks' row. -/
theorem two_of_R {w : World} {base : Nat} {ok : Nat → Prop} {v : Value} (h : k84.R 84 w base ok v [trackA, trackB]) :
    ∃ tb cap, v = .slice (some ⟨tb, 0, none⟩) 2 cap ∧ 2 ≤ cap ∧ base ≤ tb ∧ w.rangeAt tb 0 trkA ∧ w.rangeAt tb 18 trkB := by
  obtain ⟨tb, cap, rfl, hcap⟩ := R_shape h (by decide) (by decide)
  have hb := (Kd.R_bound h).1 tb (by simp [Value.ownBlock])
  obtain ⟨c, hl, hM, hc, _⟩ := Kd.R_elem h z84 0 (by decide) (by decide)
  obtain ⟨c', hl', hM', hc', _⟩ := Kd.R_elem h z84 1 (by decide) (by decide)
  have e1 : c = trkA := k84_openM hM
  have e2 : c' = trkB := k84_openM hM'
  subst e1 e2
  exact ⟨tb, cap, rfl, hcap, hb.2.1, fun j u hj => by have := hc j u hj; rw [Nat.zero_add]; simpa using this, fun j u hj => show w.cell? ⟨tb, 18 + j, none⟩ = some u from hc' j u hj⟩

set_option maxRecDepth 100000 in
set_option maxHeartbeats 4000000 in
theorem trackBad_calls (L : List Value) (hl : L.length = 18) (hI : ∀ w : World, Calls Tryz.prog 25 #[.agg L.toArray] w fun e w' => e = .returned (.bool true) ∧ Below w.heap.size w w') (w : World) :
    Calls Tryz.prog 24 #[.agg L.toArray] w fun e w' => e = .returned (.bool false) ∧ Below w.heap.size w w' := by
  have HI := Aside0.mk hI
  have HL := Aside0.mk hl
  clear hI hl
  go_enter Tryz.func24, Tryz.ntmps24
  go_wp2_with (first
    | ((with_reducible refine gate_dst (N := 1) rfl ?_); refine box_event ?hg (N := 1) ?hd (cs := L.toArray) (t := 84) ?hr ?_; (case hd => rfl); (case hg => rfl); (case hr => first | (go_simp; done) | (go_simp; rfl)); intro g1 hg_ w1 hbox_ hb_; have T1 := Aside0.mk (Lies.box hbox_); have B1 := Aside0.mk hb_; clear hg_ hbox_ hb_)
    | ((with_reducible refine gate_dst (N := 3) rfl ?_); refine wpList_load_mid rfl 84 _ rfl g1 0 rfl L _ T1.out.range Tryz.underlying84 rfl (by rw [HL.out]; exact size_track) ?_)
    | (go_at_call 25; go_loud (refine (HI.out _).mono ?_; rintro e w2 ⟨rfl, hb_⟩; have B2 := Aside0.mk (B1.out.trans (hb_.mono B1.out.size)); clear hb_)))
  go_ret
  exact ⟨rfl, B2.out⟩

set_option maxRecDepth 100000 in
set_option maxHeartbeats 8000000 in
theorem trackIndex_calls (tb cap : Nat) (w : World) (hA : w.rangeAt tb 0 trkA) (hB : w.rangeAt tb 18 trkB) :
    Calls Tryz.prog 40 #[.slice (some ⟨tb, 0, none⟩) 2 cap, .func (.func 24) #[] #[]] w fun e w' => e = .returned (.int .i64 (-1)) ∧ Below w.heap.size w w' := by
  have HAB : Aside0 (∀ W, Below w.heap.size w W → W.rangeAt tb 0 trkA ∧ W.rangeAt tb 18 trkB) := ⟨fun W hb => ⟨fun j u hj => cell_below (hA j u hj) hb, fun j u hj => cell_below (hB j u hj) hb⟩⟩
  clear hA hB
  go_enter Tryz.func40, Tryz.ntmps40
  go_upto_region 2 with (fail)
  go_loopw [8] (fun i wr => ∃ x : Int, i = .int .i64 x ∧ (0 ≤ x ∧ x ≤ 2) ∧ Aside0 (Below w.heap.size w wr)) (fun i _ => 2 - (intOf i).toNat)
  case atStart => exact ⟨0, rfl, ⟨by omega, by omega⟩, ⟨Below.refl _ _⟩⟩
  case round =>
    obtain ⟨x, rfl, ⟨hx0, hx1⟩, HBr⟩ := hrel
    by_cases hx : x < 2
    · rcases (show x = 0 ∨ x = 1 by omega) with rfl | rfl
      · go_wp2_with (first
          | ((with_reducible refine gate_dst (N := 15) rfl ?_); go_loud (refine wpList_load_mid rfl 84 _ rfl tb 0 rfl trkA _ (HAB.out _ HBr.out).1 Tryz.underlying84 rfl size_track ?_))
          | (go_at_call 24; go_loud (refine (trackBad_calls trkA rfl isA _).mono ?_; rintro e w2 ⟨rfl, hb_⟩; have B2 := Aside0.mk (HBr.out.trans (hb_.mono HBr.out.size)); clear hb_)))
        exact ⟨⟨1, rfl, ⟨by omega, by omega⟩, B2⟩, by simp [intOf]⟩
      · go_wp2_with (first
          | ((with_reducible refine gate_dst (N := 15) rfl ?_); go_loud (refine wpList_load_mid rfl 84 _ rfl tb 18 rfl trkB _ (HAB.out _ HBr.out).2 Tryz.underlying84 rfl size_track ?_))
          | (go_at_call 24; go_loud (refine (trackBad_calls trkB rfl isB _).mono ?_; rintro e w2 ⟨rfl, hb_⟩; have B2 := Aside0.mk (HBr.out.trans (hb_.mono HBr.out.size)); clear hb_)))
        exact ⟨⟨2, rfl, ⟨by omega, by omega⟩, B2⟩, by simp [intOf]⟩
    · go_wp2
      go_ret
      exact ⟨rfl, HBr.out⟩
set_option maxHeartbeats 4000000 in
theorem trackContains_calls (tb cap : Nat) (w : World) (hA : w.rangeAt tb 0 trkA) (hB : w.rangeAt tb 18 trkB) :
    Calls Tryz.prog 26 #[.slice (some ⟨tb, 0, none⟩) 2 cap, .func (.func 24) #[] #[]] w fun e w' => e = .returned (.bool false) ∧ Below w.heap.size w w' := by
  have HA := Aside0.mk hA
  have HB := Aside0.mk hB
  clear hA hB
  go_enter Tryz.func26, Tryz.ntmps26
  go_wp2_with (go_at_call 40; go_loud (refine (trackIndex_calls tb cap _ HA.out HB.out).mono ?_; rintro e w2 ⟨rfl, hb_⟩; have B2 := Aside0.mk hb_; clear hb_))
  go_ret
  exact ⟨rfl, B2.out⟩
set_option maxRecDepth 100000 in
set_option maxHeartbeats 8000000 in
theorem trackClone_calls (ad : Addr) (cap : Nat) (l0 : List S84) (w : World) (hC : k84.C w (some ad) l0.length l0) (hl : l0.length ≤ 4) :
    Calls Tryz.prog 27 #[.slice (some ad) l0.length cap] w fun e w' => ∃ v, e = .returned v ∧ k84.R 84 w' w.heap.size (fun _ => True) v l0 ∧ Below w.heap.size w w' := by
  have q : ∀ (W : World) (n c n' c' : Nat), (binOp .eql 23 (.slice (some ad) n c) (.slice none n' c')).run Tryz.prog W = .ok (.bool false) W := fun W n c n' c' => Lib.run_eql_slice_nil W _ _ (some ad) n c n' c' Tryz.underlying23
  have HC := Aside0.mk hC
  have HL := Aside0.mk hl
  clear hC hl
  go_enter Tryz.func27, Tryz.ntmps27
  go_wp2_with (first
    | ((with_reducible refine gate_dst (N := 5) rfl ?_); go_loud (refine Kd.R_lit k84 (w0 := w) w.heap.size 84 ?hg (N := 5) ?hd (xs := []) (inner := []) (ok := fun _ => True) (okp := fun _ => True) ?hr ?hp (fun _ hk => hk) trivial (Below.refl _ _) (Nat.le_refl _) (by decide) ?_; (case hd => rfl); (case hg => rfl); (case hr => first | (go_simp; done) | (go_simp; rfl)); (case hp => exact Reps.none _ _); intro v1 w3 ho hb_ hg_ hnew_; clear hg_ hnew_; have HO := Aside0.mk ho; have B3 := Aside0.mk hb_; clear ho hb_))
    | ((with_reducible refine gate_builtin (b := .append) (xs := #[.tmp 5, .tmp 6]) rfl ?_); at_builtin; go_loud (refine Kd.R_append_rows k84 (w0 := w) w.heap.size rfl (.tmp 5) (.tmp 6) 23 84 (.agg trkZ.toArray) 144 rfl Tryz.underlying23 info_trackz rfl (by decide) (by decide) v1 [] l0 _ _ _ (fun _ => True) (fun _ => False) rfl rfl HO.out (Kd.C_below HC.out B3.out) (fun x c h => by rw [k84_open h]; exact k84_mkM _ _ _ x) (fun _ h => h.elim) (fun _ _ => trivial) B3.out B3.out.size (by have := HL.out; simp; omega) ?_; intro v2 w5 ho hb hg hat; have HO2 := Aside0.mk ho; have B5 := Aside0.mk hb; clear ho hb hg hat)))
  go_ret
  exact ⟨_, rfl, HO2.out, B5.out⟩

set_option maxRecDepth 100000 in
set_option maxHeartbeats 8000000 in
theorem referNew_calls (tb cap : Nat) (w : World) (hA : w.rangeAt tb 0 trkA) (hB : w.rangeAt tb 18 trkB) (hC : k84.C w (some ⟨tb, 0, none⟩) 2 [trackA, trackB]) :
    Calls Tryz.prog 9 #[.slice (some ⟨tb, 0, none⟩) 2 cap] w fun e w' => ∃ r g T c2, e = .returned (.tuple #[.pointer (some ⟨r, 0, none⟩), .int .i64 0]) ∧ ReferAt w' r g T c2 ∧ (w.heap.size ≤ r ∧ r < w'.heap.size) ∧ g < w'.heap.size ∧ T < w'.heap.size ∧ Below w.heap.size w w' := by
  have HA := Aside0.mk hA
  have HB := Aside0.mk hB
  have HC := Aside0.mk hC
  clear hA hB hC
  go_enter Tryz.func9, Tryz.ntmps9
  go_upto_region 4 with (go_at_call 26; go_loud (refine (trackContains_calls tb cap _ HA.out HB.out).mono ?_; rintro e w2 ⟨rfl, hb_⟩; have B2 := Aside0.mk hb_; clear hb_))
  go_wp2_with (first
    | (go_at_call 27; go_loud (refine (trackClone_calls ⟨tb, 0, none⟩ cap [trackA, trackB] _ (Kd.C_below HC.out B2.out) (by decide)).mono ?_; rintro e w3 ⟨v, rfl, hR, hb_⟩; have B3 := Aside0.mk (B2.out.trans (hb_.mono B2.out.size)); obtain ⟨T, c2, hv, hc2, hT, hTA, hTB⟩ := two_of_R hR; subst hv; have HT := Aside0.mk (And.intro hTA hTB); have HTB := Aside0.mk hT; clear hb_ hR hc2 hT hTA hTB))
    | (go_at_call 28; go_loud ((with_reducible refine (gridNew2_calls _).mono ?_); rintro e w4 ⟨rfl, rfl⟩)))
  go_ret2
  have hTA := HT.out.1 0 (.int .i64 2) rfl
  have hTB := HT.out.2 0 (.int .i64 1) rfl
  have hlt := World.block_lt_of_cell? _ _ hTA
  have hs := B3.out.size
  have hlt' : T < w3.heap.size := hlt
  refine ⟨w3.heap.size + 1, w3.heap.size, T, c2, rfl, ⟨⟨new_cell (by simp) _ _ 1, cell_alloc (new_cell rfl _ _ 0) _⟩, new_cell (by simp) _ _ 0, cell_alloc (cell_alloc hTA _) _, cell_alloc (cell_alloc hTB _) _⟩, ⟨by omega, by rw [World.size_alloc, World.size_alloc]; omega⟩, by rw [World.size_alloc, World.size_alloc]; omega, by rw [World.size_alloc, World.size_alloc]; omega, below_alloc (below_alloc B3.out _) _⟩
end Go.Proofs.YtockdfnnhkhlkaaGreat.G

/- The steps of a region that draws its order, in short: what each is to show is shown by itself. -/
namespace Go.Proofs.YtockdfnnhkhlkaaGreat.G
open Go.RowKit Go.Proofs.YtockdfnnhkhlkaaGreatW.PrintWords Go.Proofs.YtockdfnnhkhlkaaGreatW.PrintLast Go.Proofs.YtockdfnnhkhlkaaGreatW.PrintMore
set_option linter.unusedVariables false
/-- What has come up: the bits of a number. -/
def bl (n m : Nat) : Array Bool := ((List.range n).map fun i => m.testBit i).toArray
section
variable {P : Program} {ops : Array Oper} {Q : Exit → Act → World → Prop} {md : Region.Mode} {S : World → Prop} {ds : List Nat} {T : Bool × List (List Nat × List Nat)} {oi : Oper} {v : Value} {fuel : Nat} {l : Array Bool} {a a' : Act} {w : World}
/-- An operation that only computes. -/
theorem pu (HT : Aside0 (rtab md ops = T)) (i : Nat) (N : Option Tmp) (l' : Array Bool) (hi : ops[i]? = some oi := by exact rfl) (hN : oi.dst = N := by exact rfl) (hc : anyT T l.toList l'.toList i = true := by kernel_rfl)
    (hQ : ∀ c a w, Q (.panic c) (a.put oi.dst v) w → Q (.panic c) a w := by exact fun _ _ _ h => h) (hw : Region.wanted oi (yielded ops a.tmps) = true := by rfl)
    (hr : ∀ w', (execOp a.eval oi).run P w' = .ok (.value v) w' := by intro w'; go_simp; with_reducible rfl)
    (ha : a.put N v = a' := by simp only [Act.put, List.setIfInBounds_toArray, List.set_cons_zero, List.set_cons_succ, i64_w, i32_w]; rfl)
    (h : wpAnyLast P md ops Q S ds fuel l' a' w) : wpAnyLast P md ops Q S ds (fuel + 1) l a w :=
  pure_ l' hi hN (any_of HT.out hc) hQ (.inl ⟨hw, hr⟩) ha h
/-- An operation that reads what is held. -/
theorem tk {B : List Nat} (HT : Aside0 (rtab md ops = T)) (HW : Aside0 (waitsOk T.2 B = true)) (hS : S w) (i : Nat) (N : Option Tmp) (l' : Array Bool)
    (hi : ops[i]? = some oi := by exact rfl) (hN : oi.dst = N := by exact rfl) (hc : takeW T B ds l.toList l'.toList i = true := by kernel_rfl)
    (hQ : ∀ c a w, Q (.panic c) (a.put oi.dst v) w → Q (.panic c) a w := by exact fun _ _ _ h => h) (hw : Region.wanted oi (yielded ops a.tmps) = true := by rfl) (hr : ∀ w', S w' → (execOp a.eval oi).run P w' = .ok (.value v) w')
    (ha : a.put N v = a' := by simp only [Act.put, List.setIfInBounds_toArray, List.set_cons_zero, List.set_cons_succ, i64_w, i32_w]; rfl)
    (h : wpAnyLast P md ops Q S ds fuel l' a' w) : wpAnyLast P md ops Q S ds (fuel + 1) l a w :=
  take_ l' hi hN (take_ofW HT.out HW.out hc) hQ (.inl ⟨hw, hr⟩) hS ha h
end
end Go.Proofs.YtockdfnnhkhlkaaGreat.G

/- ledger.New and Issued (laid by mkzledger.py). -/
namespace Go.Proofs.YtockdfnnhkhlkaaGreat.G
open Go.RowKit Go.Shelf Go.Proofs.YtockdfnnhkhlkaaGreatW.PrintWords Go.Proofs.YtockdfnnhkhlkaaGreatW.PrintLast Go.Proofs.YtockdfnnhkhlkaaGreatW.PrintMore
set_option linter.unusedVariables false
set_option linter.unusedSimpArgs false
def lnew_r12.T : Bool × List (List Nat × List Nat) := (true, [([], []), ([], []), ([1], [1]), ([2], [2]), ([3], [3]), ([], []), ([5], [5]), ([4, 6], [4, 6]), ([0, 0, 1, 2, 3, 4, 5, 6, 7], [0]), ([8, 0, 1, 2, 3, 4, 5, 6, 7], [8]), ([9, 7, 7, 0, 1, 2, 3, 4, 5, 6, 7], [7, 9])])
def lnew_r12.B : List Nat := [0, 0, 2, 6, 14, 0, 32, 126, 255, 511, 1023]
theorem lnew_r12.tab : rtab .any (opsOf Tryz.f8 12) = lnew_r12.T := by kernel_rfl
theorem lnew_r12.bits : waitsOk lnew_r12.T.2 lnew_r12.B = true := by kernel_rfl
def lnew_r12.l0 : Array Bool := bl 11 1
def lnew_r12.l1 : Array Bool := bl 11 3
def lnew_r12.l2 : Array Bool := bl 11 7
def lnew_r12.l3 : Array Bool := bl 11 15
def lnew_r12.l4 : Array Bool := bl 11 31
def lnew_r12.l5 : Array Bool := bl 11 63
def lnew_r12.l6 : Array Bool := bl 11 127
def lnew_r12.l7 : Array Bool := bl 11 255
def lnew_r12.l8 : Array Bool := bl 11 511
def lnew_r12.l9 : Array Bool := bl 11 1023
def lnew_r12.l10 : Array Bool := bl 11 2047

/-- An account: what is free, what is held. -/
abbrev KAcc : Kd (Int × Int) := Kd.pair (Kd.int .i64) (Kd.int .i64)
theorem acc_mkM (w : World) (base : Nat) (ok : Nat → Prop) (a b : Int) : KAcc.M w base ok (a, b) [.int .i64 a, .int .i64 b] := ⟨[.int .i64 a], [.int .i64 b], rfl, rfl, rfl⟩
theorem acc_open {w : World} {x : Int × Int} {cs : List Value} (h : KAcc.K w x cs) : cs = [.int .i64 x.1, .int .i64 x.2] := by
  obtain ⟨_, _, rfl, rfl, rfl⟩ := h
  exact rfl
theorem at_acc {w : World} {A : Option Addr} {n : Nat} {xs : List (Int × Int)} (h : KAcc.C w A n xs) (i : Int) (h0 : 0 ≤ i) (h1 : i < n) : ∃ ad, A = some ad ∧ w.cell? (ad.add (i.toNat * 2)) = some (.int .i64 (xs.getD i.toNat (0, 0)).1) ∧ w.cell? ⟨(ad.add (i.toNat * 2)).block, (ad.add (i.toNat * 2)).off + 1, none⟩ = some (.int .i64 (xs.getD i.toNat (0, 0)).2) := by
  obtain ⟨ad, c, e, _, hK, hc0⟩ := Kd.C_get h (0, 0) i h0 h1
  have hc : ∀ j u, c[j]? = some u → w.cell? (ad.add (i.toNat * 2 + j)) = some u := hc0
  obtain rfl := acc_open hK
  exact ⟨ad, e, hc 0 _ rfl, by rw [← add_field _ _ 1 (by omega)]; exact hc 1 _ rfl⟩
theorem info_acc : (Tryz.prog.info? 79).map (·.size) = some 2 := by kernel_rfl
theorem info_accz : (Tryz.prog.info? 79).map (fun i => (i.zero, i.size, i.bytes)) = some (some (.agg #[.int .i64 0, .int .i64 0]), 2, 16) := by kernel_rfl

def okL (L q : Nat) (k : Nat) : Prop := k ≠ L ∧ k ≠ q
/-- A ledger: its block L, its locks' grid q (of nothing), its accounts. -/
structure LedgerAt (B : Nat) (w : World) (L q : Nat) (v : Value) (accs : List (Int × Int)) : Prop where
  box : Lies w L [v, .pointer (some ⟨q, 0, none⟩)]
  row : KAcc.R 79 w B (okL L q) v accs
  grid : Lies w q [.slice none 0 0]
  apart : L ≠ q
theorem LedgerAt.below {B : Nat} {w w' : World} {L q : Nat} {v : Value} {accs : List (Int × Int)} (h : LedgerAt B w L q v accs) (hb : Below w.heap.size w w') : LedgerAt B w' L q v accs :=
  ⟨h.box.below hb (h.box.lt (by simp)), Kd.R_below h.row hb, h.grid.below hb (h.grid.lt (by simp)), h.apart⟩
theorem LedgerAt.drew {B : Nat} {w : World} {L q : Nat} {v : Value} {accs : List (Int × Int)} (h : LedgerAt B w L q v accs) : LedgerAt B w.drew L q v accs := h.below (below_drew (Below.refl _ _))
theorem LedgerAt.appended {B : Nat} {w w' : World} {L q : Nat} {v v1 : Value} {accs accs1 : List (Int × Int)} (h : LedgerAt B w L q v accs) (hg : w.grownBy w' v.ownBlock) (hR : KAcc.R 79 w' B (okL L q) v1 accs1) :
    Lies w' L [v, .pointer (some ⟨q, 0, none⟩)] ∧ LedgerAt B (w'.setCell ⟨L, 0, none⟩ v1) L q v1 accs1 := by
  have h1 : Lies w' L [v, .pointer (some ⟨q, 0, none⟩)] := h.box.of_block (hg.block L (h.box.lt (by simp)) (fun e => (h.row.1 L e.symm).1 rfl))
  have h2 : Lies w' q [.slice none 0 0] := h.grid.of_block (hg.block q (h.grid.lt (by simp)) (fun e => (h.row.1 q e.symm).2 rfl))
  exact ⟨h1, h1.set 0 (by simp) v1, Kd.R_grown hR (grownBy_setCell' w' L v1) (fun k hk e => hk.1 (Option.some.inj e)), h2.set_far (fun e => h.apart e.symm) 0 v1, h.apart⟩

theorem LedgerAt.set_far {B : Nat} {w : World} {L q g : Nat} {v : Value} {accs : List (Int × Int)} (h : LedgerAt B w L q v accs) (h1 : L ≠ g) (h2 : q ≠ g) (h3 : some g ≠ v.ownBlock) (u : Value) : LedgerAt B (w.setCell ⟨g, 0, none⟩ u) L q v accs :=
  ⟨h.box.set_far h1 0 u, Kd.R_grown1 h.row rfl (grownBy_setCell' w g u) h3, h.grid.set_far h2 0 u, h.apart⟩
def sumA (l : List (Int × Int)) : Int := (l.map fun x => x.1 + x.2).sum
theorem sumA_take (l : List (Int × Int)) (i : Nat) (h : i < l.length) : sumA (l.take (i + 1)) = sumA (l.take i) + ((l.getD i (0, 0)).1 + (l.getD i (0, 0)).2) := by
  unfold sumA
  rw [List.take_add_one, List.getD_eq_getElem?_getD, List.getElem?_eq_getElem h]
  simp only [Option.toList_some, Option.getD_some, List.map_append, List.map_cons, List.map_nil, List.sum_append, List.sum_cons, List.sum_nil, Int.add_zero]
theorem sumA_range (l : List (Int × Int)) (hl : ∀ x ∈ l, 0 ≤ x.1 + x.2 ∧ x.1 + x.2 ≤ 4294967296) (i : Nat) : 0 ≤ sumA (l.take i) ∧ sumA (l.take i) ≤ 4294967296 * i := by
  induction i with
  | zero => simp [sumA]
  | succ i ih =>
    rcases Nat.lt_or_ge i l.length with h | h
    · rw [sumA_take l i h]
      have := hl (l.getD i (0, 0)) (by rw [List.getD_eq_getElem?_getD, List.getElem?_eq_getElem h]; simp)
      omega
    · rw [List.take_of_length_le (by omega)]; rw [List.take_of_length_le h] at ih; omega

set_option maxRecDepth 100000 in
set_option maxHeartbeats 4000000 in
theorem issued_calls (B L q : Nat) (v : Value) (accs : List (Int × Int)) (w : World) (hL : LedgerAt B w L q v accs) (hn : accs.length ≤ 1000) (hl : ∀ x ∈ accs, 0 ≤ x.1 ∧ x.1 ≤ 1073741824 ∧ 0 ≤ x.2 ∧ x.2 ≤ 1073741824) :
    Calls Tryz.prog 23 #[.pointer (some ⟨L, 0, none⟩)] w fun e w' => e = .returned (.int .i64 (sumA accs)) ∧ Below w.heap.size w w' := by
  obtain ⟨A, c, rfl, hc, hC⟩ := Kd.R_reads hL.row
  have HC := Aside0.mk hC
  have HR := Aside0.mk (sumA_range accs (fun x hx => by have := hl x hx; omega))
  have HAL := Aside0.mk hl
  have l0 := hL.box.cell (i := 0) rfl
  clear hL hC hc hl
  go_enter Tryz.func23, Tryz.ntmps23
  go_upto_region 4 with (fail)
  go_loopw [13, 3] (fun i s wr => ∃ x y : Int, i = .int .i64 x ∧ s = .int .i64 y ∧ (0 ≤ x ∧ x ≤ accs.length) ∧ Aside0 (y = sumA (accs.take x.toNat)) ∧ Aside0 (Below w.heap.size w wr)) (fun i _ _ => accs.length - (intOf i).toNat)
  case atStart => exact ⟨0, 0, rfl, rfl, ⟨by omega, by omega⟩, ⟨by simp [sumA]⟩, ⟨Below.refl _ _⟩⟩
  case round =>
    obtain ⟨x, y, rfl, rfl, ⟨hx0, hx1⟩, HY, HBr⟩ := hrel
    by_cases hx : x < accs.length
    · obtain ⟨ad, rfl, c0, c1⟩ := at_acc (Kd.C_below HC.out HBr.out) x hx0 (by omega)
      have hxn : x.toNat < accs.length := by omega
      have hsu := sumA_take accs x.toNat hxn
      have hm : accs.getD x.toNat (0, 0) ∈ accs := by rw [List.getD_eq_getElem?_getD, List.getElem?_eq_getElem hxn]; simp
      generalize accs.getD x.toNat (0, 0) = p at c0 c1 hsu hm
      have hp := HAL.out p hm
      have hr := HR.out x.toNat
      have e2 : Aside0 (wrap64 (y + wrap64 (p.1 + p.2)) = sumA (accs.take (x + 1).toNat)) := ⟨by
        have hy := HY.out
        rw [wrapI (a := p.1 + p.2) (by omega) (by omega), wrapI (a := y + (p.1 + p.2)) (by omega) (by omega), show (x + 1).toNat = x.toNat + 1 by omega, hsu, hy]⟩
      clear hsu hm hp hr
      go_wp2
      refine ⟨⟨x + 1, _, rfl, rfl, ⟨by omega, by omega⟩, e2, ⟨?_⟩⟩, by simp [intOf]; omega⟩
      exact below_alloc HBr.out _
    · have e3 : x = accs.length := by omega
      go_wp2
      go_ret
      refine ⟨?_, HBr.out⟩
      rw [HY.out, e3, Int.toNat_natCast, List.take_length]
      rfl

/-- The accounts of what is free, up to the n-th. -/
def accF (l : List Int) (n : Nat) : List (Int × Int) := (List.range n).map fun j => (l.getD j 0, 0)
theorem accF_succ (l : List Int) (n : Nat) : accF l (n + 1) = accF l n ++ [(l.getD n 0, 0)] := by unfold accF; rw [List.range_succ, List.map_append]; rfl
theorem accF_length (l : List Int) (n : Nat) : (accF l n).length = n := by simp [accF]
/-- May there be such balances? -/
def NewOk (l : List Int) : Prop := l.length ≤ 10 ∧ (∀ j, j < 10 → 0 ≤ l.getD j 0 ∧ l.getD j 0 ≤ 1073741824) ∧ sumA (accF l 10) ≤ 1073741824
theorem amount_tells (f : Int) : ledger_isAmount.f f = some (decide (0 ≤ f ∧ f ≤ 1073741824)) := by
  unfold ledger_isAmount.f
  by_cases h : 0 ≤ f <;> by_cases h' : f ≤ 1073741824 <;> simp [h, h', ge_iff_le]

set_option maxRecDepth 100000 in
set_option maxHeartbeats 16000000 in
theorem ledgerNew_calls (A : Option Addr) (c : Nat) (l : List Int) (w : World) (hC : Kd.C (Kd.int .i64) w A l.length l) (hc : l.length ≤ c) :
    Calls Tryz.prog 8 #[.slice A l.length c] w fun e w' => ((NewOk l ∧ ∃ L q v, e = .returned (.tuple #[.pointer (some ⟨L, 0, none⟩), .int .i64 0]) ∧ LedgerAt w.heap.size w' L q v (accF l 10)) ∨ (¬ NewOk l ∧ e = .returned (.tuple #[.pointer none, .int .i64 1]))) ∧ Below w.heap.size w w' := by
  by_cases hlen : 10 < l.length
  · have hlen' : (10 : Int) < (l.length : Int) := by omega
    have HNO : Aside0 (¬ NewOk l) := ⟨fun h => by have := h.1; omega⟩
    go_enter Tryz.func8, Tryz.ntmps8
    go_wp2
    go_ret2
    exact ⟨.inr ⟨HNO.out, rfl⟩, Below.refl _ _⟩
  have hlen' : ¬ (10 : Int) < (l.length : Int) := by omega
  have HC := Aside0.mk hC
  clear hC
  go_enter Tryz.func8, Tryz.ntmps8
  go_upto_region 4 with (go_at_call 21; go_loud ((with_reducible refine (gridNew1_calls _).mono ?_); rintro e w1 ⟨rfl, rfl⟩))
  have n0_ : LedgerAt w.heap.size ((w.alloc (.cells #[.slice none 0 0] 139)).alloc (.cells #[.slice none 0 0, .pointer (some ⟨w.heap.size, 0, none⟩)] 77)) (w.heap.size + 1) w.heap.size (.slice none 0 0) (accF l 0) :=
    ⟨Lies.box (t := 77) (by have := blk_new (w.alloc (.cells #[.slice none 0 0] 139)) (.cells #[.slice none 0 0, .pointer (some ⟨w.heap.size, 0, none⟩)] 77); rwa [World.size_alloc] at this), Kd.R_nil _ _ _ _ _, Lies.box (t := 139) (blk_alloc (blk_new w _) _), by omega⟩
  have n1_ : Below w.heap.size w ((w.alloc (.cells #[.slice none 0 0] 139)).alloc (.cells #[.slice none 0 0, .pointer (some ⟨w.heap.size, 0, none⟩)] 77)) := below_alloc (below_alloc (Below.refl _ _) _) _
  obtain ⟨L, hLd⟩ : ∃ L, L = w.heap.size + 1 := ⟨_, rfl⟩
  obtain ⟨q, hqd⟩ : ∃ q, q = w.heap.size := ⟨_, rfl⟩
  have hLd' : (⟨w.heap.size + 1, 0, none⟩ : Addr) = ⟨L, 0, none⟩ := by rw [hLd]
  have n2_ : LedgerAt w.heap.size ((w.alloc (.cells #[.slice none 0 0] 139)).alloc (.cells #[.slice none 0 0, .pointer (some ⟨w.heap.size, 0, none⟩)] 77)) L q (.slice none 0 0) (accF l 0) := by rw [hLd, hqd]; exact n0_
  have n3_ : ((w.alloc (.cells #[.slice none 0 0] 139)).alloc (.cells #[.slice none 0 0, .pointer (some ⟨w.heap.size, 0, none⟩)] 77)).heap.size = w.heap.size + 2 := by simp
  rw [hLd']
  generalize ((w.alloc (.cells #[.slice none 0 0] 139)).alloc (.cells #[.slice none 0 0, .pointer (some ⟨w.heap.size, 0, none⟩)] 77)) = w1 at n1_ n2_ n3_ ⊢
  have HLL : Aside0 (w.heap.size ≤ L) := ⟨by omega⟩
  have HOK : Aside0 (∀ k, w.heap.size + 2 ≤ k → okL L q k) := ⟨fun k hk => ⟨by omega, by omega⟩⟩
  have HL1 := Aside0.mk n2_
  have HB1 := Aside0.mk n1_
  have HS1 := Aside0.mk n3_
  clear n0_ n1_ n2_ n3_ hLd hqd hLd'
  go_upto_region 5 with (fail)
  go_loopw [13] (fun i wr => ∃ x : Int, i = .int .i64 x ∧ (0 ≤ x ∧ x ≤ 10) ∧ Aside0 (∃ v, LedgerAt w.heap.size wr L q v (accF l x.toNat)) ∧ Aside0 (∀ j, j < x.toNat → 0 ≤ l.getD j 0 ∧ l.getD j 0 ≤ 1073741824) ∧ Aside0 (Below w.heap.size w wr ∧ w1.heap.size ≤ wr.heap.size)) (fun i _ => 10 - (intOf i).toNat)
  case atStart => exact ⟨0, rfl, ⟨by omega, by omega⟩, ⟨_, HL1.out⟩, ⟨fun j h => absurd h (Nat.not_lt_zero j)⟩, ⟨HB1.out, Nat.le_refl _⟩⟩
  case round =>
    obtain ⟨x, rfl, ⟨hx0, hx1⟩, HLr, HJ, HBr⟩ := hrel
    by_cases hx : x < 10
    · obtain ⟨v, hLr⟩ := HLr.out
      clear HLr
      have HLr := Aside0.mk hLr
      clear hLr
      have e1 : Aside0 (IntKind.i64.wrap (x + 1) = x + 1) := ⟨IntWalk.i64_in _ (by omega)⟩
      obtain ⟨f, hf⟩ : ∃ f, f = l.getD x.toNat 0 := ⟨_, rfl⟩
      have HF := Aside0.mk hf
      obtain ⟨accs, hac⟩ : ∃ accs, accs = accF l x.toNat := ⟨_, rfl⟩
      have HACC := Aside0.mk hac
      have HN6 : Aside0 (accs.length ≤ 10) := ⟨by rw [hac, accF_length]; omega⟩
      have hlr := HLr.out
      rw [← hac] at hlr
      clear hac HLr
      have HLr := Aside0.mk hlr
      clear hlr
      have HOW : Aside0 (∀ k, v.ownBlock = some k → k < wr.heap.size) := ⟨Kd.R_lt HLr.out.row⟩
      go_upto_region 8 with (fail)
      have n0_ := HLr.out.below (below_alloc (Below.refl _ _) (.cells #[.int .i64 0, .int .i64 0] 79))
      have n1_ : Lies (wr.alloc (.cells #[.int .i64 0, .int .i64 0] 79)) wr.heap.size [.int .i64 0, .int .i64 0] := Lies.box (t := 79) (blk_new wr _)
      have n2_ := below_alloc HBr.out.1 (.cells #[.int .i64 0, .int .i64 0] 79)
      have n5_ : wr.heap.size < (wr.alloc (.cells #[.int .i64 0, .int .i64 0] 79)).heap.size := by simp
      have n3_ : some wr.heap.size ≠ v.ownBlock := fun e => by have := HOW.out _ e.symm; omega
      have n4_ : w1.heap.size ≤ wr.heap.size := HBr.out.2
      clear HOW HBr
      generalize wr.alloc (.cells #[.int .i64 0, .int .i64 0] 79) = w5 at n0_ n1_ n2_ n5_ ⊢
      generalize wr.heap.size = g6 at n1_ n3_ n4_ n5_ ⊢
      have HL5 := Aside0.mk n0_
      have HB5 := Aside0.mk n2_
      have HNE := Aside0.mk n3_
      have HG6s := Aside0.mk n4_
      have HS5 : Aside0 (w1.heap.size ≤ w5.heap.size) := ⟨by omega⟩
      have g0 := n1_.cell (i := 0) rfl
      have gf0 := n1_.frozen 0 (by simp)
      have g1 := n1_.cell (i := 1) rfl
      have HG5 := Aside0.mk n1_
      clear n0_ n1_ n2_ n3_ n4_ n5_
      have HFIN : Aside0 (∀ wf v1, LedgerAt w.heap.size wf L q v1 (accs ++ [(f, 0)]) → (0 ≤ f ∧ f ≤ 1073741824) → (Below w.heap.size w wf ∧ w1.heap.size ≤ wf.heap.size) →
          (∃ y : Int, Value.int .i64 (x + 1) = .int .i64 y ∧ (0 ≤ y ∧ y ≤ 10) ∧ Aside0 (∃ v, LedgerAt w.heap.size wf L q v (accF l y.toNat)) ∧ Aside0 (∀ j, j < y.toNat → 0 ≤ l.getD j 0 ∧ l.getD j 0 ≤ 1073741824) ∧ Aside0 (Below w.heap.size w wf ∧ w1.heap.size ≤ wf.heap.size)) ∧ 10 - (intOf (.int .i64 (x + 1))).toNat < 10 - (intOf (.int .i64 x)).toNat) := ⟨fun wf v1 h1 h2 h3 => by
        have e : (x + 1).toNat = x.toNat + 1 := by omega
        refine ⟨⟨x + 1, rfl, ⟨by omega, by omega⟩, ⟨v1, ?_⟩, ⟨fun j hj => ?_⟩, ⟨h3⟩⟩, by simp [intOf]; omega⟩
        · rw [e, accF_succ, ← HACC.out, ← HF.out]; exact h1
        · rw [e] at hj
          rcases Nat.lt_or_ge j x.toNat with h | h
          · exact HJ.out j h
          · rw [show j = x.toNat by omega, ← HF.out]; exact h2⟩
      by_cases hamt : 0 ≤ f ∧ f ≤ 1073741824
      · have HAMT := Aside0.mk hamt
        have ham : ledger_isAmount.f f = some true := by rw [amount_tells, decide_eq_true hamt]
        have HAM := Aside0.mk ham
        have hpre : Aside0 ((x < (l.length : Int) → ∃ ad, A = some ad ∧ w5.cell? (ad.add x.toNat) = some (.int .i64 f))) := ⟨fun h => by
          obtain ⟨ad, e, c0⟩ := Kd.at_int (Kd.C_below HC.out HB5.out) x hx0 (by omega)
          refine ⟨ad, e, ?_⟩
          rw [c0, HF.out]; rfl⟩
        have hzero : Aside0 (¬ x < (l.length : Int) → f = 0) := ⟨fun h => by rw [HF.out, List.getD_eq_getElem?_getD, List.getElem?_eq_none (by omega)]; rfl⟩
        clear hf ham hamt
        by_cases hxl : x < l.length
        · obtain ⟨ad, rfl, c0⟩ := hpre.out hxl
          go_upto_region 10 with (fail)
          have n0_ := HL5.out.set_far (g := g6) (by have := HL1.out.box.lt (by simp); have := HG6s.out; omega) (by have := HL1.out.grid.lt (by simp); have := HG6s.out; omega) HNE.out (.int .i64 f)
          have n1_ := HG5.out.set 0 (by simp) (.int .i64 f)
          have n2_ := HB5.out.setCell (p := ⟨g6, 0, none⟩) (show w.heap.size ≤ g6 by have := HG6s.out; have := HS1.out; omega) (.int .i64 f)
          have n5_ : w1.heap.size ≤ (w5.setCell ⟨g6, 0, none⟩ (.int .i64 f)).heap.size := by rw [World.size_setCell]; exact HS5.out
          have n1_ : Lies (w5.setCell ⟨g6, 0, none⟩ (.int .i64 f)) g6 [.int .i64 f, .int .i64 0] := n1_
          generalize World.setCell w5 _ _ = w8 at n0_ n1_ n2_ n5_ ⊢
          clear g0 gf0 g1 c0
          have g0 := n1_.cell (i := 0) rfl
          have T5 := Aside0.mk n0_
          have T6 := Aside0.mk n1_
          have T7 := Aside0.mk n2_
          have T8 := Aside0.mk n5_
          clear n0_ n1_ n2_ n5_
          go_upto_region 12 with (go_at_call 22; go_loud ((with_reducible refine (ledger_isAmount.calls f _ _ HAM.out).mono ?_); rintro e w6 ⟨rfl, hd_⟩; have HD6 := Aside0.mk hd_.below; clear hd_))
          clear g0
          have n0_ := T5.out.below HD6.out
          have n1_ := T6.out.below HD6.out (T6.out.lt (by simp))
          have n2_ := T7.out.trans (HD6.out.mono T7.out.size)
          have n5_ := Nat.le_trans T8.out HD6.out.size
          have HL6 := Aside0.mk n0_
          have HG6 := Aside0.mk n1_
          have HB6 := Aside0.mk n2_
          have HS6 := Aside0.mk n5_
          clear n0_ n1_ n2_ n5_
          refine start_ (n := 11) (S := fun w' => w'.cell? ⟨L, 0, none⟩ = some v ∧ w'.rangeAt g6 0 [.int .i64 f, .int .i64 0]) (ds := [10]) #[false, false, false, false, false, false, false, false, false, false, false] (by kernel_rfl) rfl rfl ⟨HL6.out.box.drew.cell (i := 0) rfl, HG6.out.drew.range⟩ (fun hHeld => ?_)
          refine with_tabW lnew_r12.tab lnew_r12.bits (fun HT_ HW_ => ?_)
          refine pu HT_ 0 (some 30) lnew_r12.l0 (h := ?_)
          refine pu HT_ 1 (some 31) lnew_r12.l1 (h := ?_)
          refine pu HT_ 2 (some 32) lnew_r12.l2 (h := ?_)
          refine pu HT_ 3 (some 33) lnew_r12.l3 (h := ?_)
          refine tk HT_ HW_ hHeld 4 (some 34) lnew_r12.l4 (hr := by intro w' hs_; obtain ⟨s0, s1⟩ := hs_; go_simp; with_reducible rfl) (h := ?_)
          refine take_ (i := 5) (N := some 35) (v := .agg #[.int .i64 f, .int .i64 0]) (a' := ?_) lnew_r12.l5 rfl rfl (take_ofW HT_.out HW_.out (by kernel_rfl)) (fun _ _ _ h => h) (Or.inl ⟨by rfl, ?_⟩) hHeld ?_ ?_
          · intro w' hs_
            exact load_runO' (ty := 79) (y := .tmp 6) (g := g6) (off := 0) (L := [.int .i64 f, .int .i64 0]) rfl rfl hs_.2 Tryz.underlying79 rfl info_acc
          rotate_left
          · simp only [Act.put, List.setIfInBounds_toArray, List.set_cons_zero, List.set_cons_succ, i64_w, i32_w]
            rfl
          refine one_ (i := 6) (N := some 36) lnew_r12.l6 rfl rfl (one_of HT_.out (by kernel_rfl)) (by decide) (fun K hK => ?_)
          refine value_ (v := .slice (some ⟨w6.drew.heap.size, 0, none⟩) 1 1) (w1 := (w6.drew.alloc (.cells #[.int .i64 f, .int .i64 0] 79))) (by rfl) rfl ?_ ?_
          · go_simp
            try rfl
          refine hK.out _ _ (⟨(HL6.out.box.drew.below (below_alloc (Below.refl _ _) (.cells #[.int .i64 f, .int .i64 0] 79)) (HL6.out.box.drew.lt (by simp))).cell (i := 0) rfl, (HG6.out.drew.below (below_alloc (Below.refl _ _) (.cells #[.int .i64 f, .int .i64 0] 79)) (HG6.out.drew.lt (by simp))).range⟩) (fun hHeld => ?_)
          clear hK K
          refine norm_ (a' := ?_) ?_ ?_
          rotate_left
          · show Act.put _ (some 36) _ = _
            simp only [Act.put, List.setIfInBounds_toArray, List.set_cons_zero, List.set_cons_succ, i64_w, i32_w]
            rfl
          refine one_ (i := 7) (N := some 37) lnew_r12.l7 rfl rfl (one_of HT_.out (by kernel_rfl)) (by decide) (fun K hK => ?_)
          refine Kd.R_append_step KAcc (w0 := w) w.heap.size (by rfl) (.tmp 34) (.tmp 36) 75 79 (.agg #[.int .i64 0, .int .i64 0]) 16 rfl Tryz.underlying75 info_accz rfl (by decide) (by decide) v accs (f, 0) [.int .i64 f, .int .i64 0] (okL L q) (fun _ => False) rfl rfl (acc_mkM _ _ _ _ _) (fun _ h => h.elim) (fun k hk => HOK.out k (by have := HS6.out; have := HS1.out; have e : w6.drew.heap.size = w6.heap.size := rfl; omega)) (Kd.R_drew HL6.out.row) (below_drew HB6.out) HB6.out.size (by have := HN6.out; omega) ?_
          intro v1 w7 hR_ hb_ hg_ _
          obtain ⟨bv, cap, hv_, hcap_⟩ := R_shape hR_ (by simp) (by decide)
          subst hv_
          have hg_' : w6.drew.grownBy w7 v.ownBlock := hg_
          have HL7 := Aside0.mk (LedgerAt.appended HL6.out.drew hg_' hR_)
          have HB7 := Aside0.mk hb_
          have HS7 : Aside0 (w6.heap.size ≤ w7.heap.size) := ⟨hg_'.size⟩
          refine hK.out _ _ (show _ ∧ _ from ⟨HL7.out.1.cell (i := 0) rfl, (HG6.out.drew.of_block (hg_'.block g6 (HG6.out.drew.lt (by simp)) HNE.out)).range⟩) (fun hHeld => ?_)
          clear hK K
          clear hR_ hb_ hg_ hg_'
          refine norm_ (a' := ?_) ?_ ?_
          rotate_left
          · show Act.put _ (some 37) _ = _
            simp only [Act.put, List.setIfInBounds_toArray, List.set_cons_zero, List.set_cons_succ, i64_w, i32_w]
            rfl
          refine pu HT_ 8 (some 38) lnew_r12.l8 (h := ?_)
          refine pu HT_ 9 (some 39) lnew_r12.l9 (h := ?_)
          have HBF : Aside0 (Below w.heap.size w (w7.setCell ⟨L, 0, none⟩ (.slice (some ⟨bv, 0, none⟩) (accs ++ [(f, 0)]).length cap)) ∧ w1.heap.size ≤ (w7.setCell ⟨L, 0, none⟩ (.slice (some ⟨bv, 0, none⟩) (accs ++ [(f, 0)]).length cap)).heap.size) := ⟨HB7.out.setCell (p := ⟨L, 0, none⟩) HLL.out _, by rw [World.size_setCell]; exact Nat.le_trans HS6.out HS7.out⟩
          refine last_ (i := 10) (N := none) lnew_r12.l10 rfl rfl (one_of HT_.out (by kernel_rfl)) (by decide) (fun K hK => ?_)
          refine skip_ (w1 := w7.setCell ⟨L, 0, none⟩ (.slice (some ⟨bv, 0, none⟩) (accs ++ [(f, 0)]).length cap)) (by rfl) rfl ?_ ?_
          · have s0 := HL7.out.1.cell (i := 0) rfl
            have f0 := HL7.out.1.frozen 0 (by simp)
            go_simp
          refine hK.out _ _ ?_
          clear hK K
          refine done_ (done_of HT_.out (by kernel_rfl)) ?_
          clear HT_ HW_
          have n0_ := HL7.out.2
          have n2_ := HBF.out
          generalize World.setCell w7 _ _ = wf at n0_ n2_ ⊢
          have HFN := Aside0.mk (HFIN.out wf _ n0_ HAMT.out n2_)
          clear n0_ n2_
          go_wp2
          exact HFN.out
        · go_upto_region 10 with (fail)
          have n0_ := HL5.out
          have n1_ : Lies w5 g6 [.int .i64 f, .int .i64 0] := by have := HG5.out; rw [hzero.out hxl]; exact this
          have n2_ := HB5.out
          have n5_ := HS5.out
          have n1_ : Lies w5 g6 [.int .i64 f, .int .i64 0] := n1_
          clear g0 gf0 g1
          have g0 := n1_.cell (i := 0) rfl
          have T5 := Aside0.mk n0_
          have T6 := Aside0.mk n1_
          have T7 := Aside0.mk n2_
          have T8 := Aside0.mk n5_
          clear n0_ n1_ n2_ n5_
          go_upto_region 12 with (go_at_call 22; go_loud ((with_reducible refine (ledger_isAmount.calls f _ _ HAM.out).mono ?_); rintro e w6 ⟨rfl, hd_⟩; have HD6 := Aside0.mk hd_.below; clear hd_))
          clear g0
          have n0_ := T5.out.below HD6.out
          have n1_ := T6.out.below HD6.out (T6.out.lt (by simp))
          have n2_ := T7.out.trans (HD6.out.mono T7.out.size)
          have n5_ := Nat.le_trans T8.out HD6.out.size
          have HL6 := Aside0.mk n0_
          have HG6 := Aside0.mk n1_
          have HB6 := Aside0.mk n2_
          have HS6 := Aside0.mk n5_
          clear n0_ n1_ n2_ n5_
          refine start_ (n := 11) (S := fun w' => w'.cell? ⟨L, 0, none⟩ = some v ∧ w'.rangeAt g6 0 [.int .i64 f, .int .i64 0]) (ds := [10]) #[false, false, false, false, false, false, false, false, false, false, false] (by kernel_rfl) rfl rfl ⟨HL6.out.box.drew.cell (i := 0) rfl, HG6.out.drew.range⟩ (fun hHeld => ?_)
          refine with_tabW lnew_r12.tab lnew_r12.bits (fun HT_ HW_ => ?_)
          refine pu HT_ 0 (some 30) lnew_r12.l0 (h := ?_)
          refine pu HT_ 1 (some 31) lnew_r12.l1 (h := ?_)
          refine pu HT_ 2 (some 32) lnew_r12.l2 (h := ?_)
          refine pu HT_ 3 (some 33) lnew_r12.l3 (h := ?_)
          refine tk HT_ HW_ hHeld 4 (some 34) lnew_r12.l4 (hr := by intro w' hs_; obtain ⟨s0, s1⟩ := hs_; go_simp; with_reducible rfl) (h := ?_)
          refine take_ (i := 5) (N := some 35) (v := .agg #[.int .i64 f, .int .i64 0]) (a' := ?_) lnew_r12.l5 rfl rfl (take_ofW HT_.out HW_.out (by kernel_rfl)) (fun _ _ _ h => h) (Or.inl ⟨by rfl, ?_⟩) hHeld ?_ ?_
          · intro w' hs_
            exact load_runO' (ty := 79) (y := .tmp 6) (g := g6) (off := 0) (L := [.int .i64 f, .int .i64 0]) rfl rfl hs_.2 Tryz.underlying79 rfl info_acc
          rotate_left
          · simp only [Act.put, List.setIfInBounds_toArray, List.set_cons_zero, List.set_cons_succ, i64_w, i32_w]
            rfl
          refine one_ (i := 6) (N := some 36) lnew_r12.l6 rfl rfl (one_of HT_.out (by kernel_rfl)) (by decide) (fun K hK => ?_)
          refine value_ (v := .slice (some ⟨w6.drew.heap.size, 0, none⟩) 1 1) (w1 := (w6.drew.alloc (.cells #[.int .i64 f, .int .i64 0] 79))) (by rfl) rfl ?_ ?_
          · go_simp
            try rfl
          refine hK.out _ _ (⟨(HL6.out.box.drew.below (below_alloc (Below.refl _ _) (.cells #[.int .i64 f, .int .i64 0] 79)) (HL6.out.box.drew.lt (by simp))).cell (i := 0) rfl, (HG6.out.drew.below (below_alloc (Below.refl _ _) (.cells #[.int .i64 f, .int .i64 0] 79)) (HG6.out.drew.lt (by simp))).range⟩) (fun hHeld => ?_)
          clear hK K
          refine norm_ (a' := ?_) ?_ ?_
          rotate_left
          · show Act.put _ (some 36) _ = _
            simp only [Act.put, List.setIfInBounds_toArray, List.set_cons_zero, List.set_cons_succ, i64_w, i32_w]
            rfl
          refine one_ (i := 7) (N := some 37) lnew_r12.l7 rfl rfl (one_of HT_.out (by kernel_rfl)) (by decide) (fun K hK => ?_)
          refine Kd.R_append_step KAcc (w0 := w) w.heap.size (by rfl) (.tmp 34) (.tmp 36) 75 79 (.agg #[.int .i64 0, .int .i64 0]) 16 rfl Tryz.underlying75 info_accz rfl (by decide) (by decide) v accs (f, 0) [.int .i64 f, .int .i64 0] (okL L q) (fun _ => False) rfl rfl (acc_mkM _ _ _ _ _) (fun _ h => h.elim) (fun k hk => HOK.out k (by have := HS6.out; have := HS1.out; have e : w6.drew.heap.size = w6.heap.size := rfl; omega)) (Kd.R_drew HL6.out.row) (below_drew HB6.out) HB6.out.size (by have := HN6.out; omega) ?_
          intro v1 w7 hR_ hb_ hg_ _
          obtain ⟨bv, cap, hv_, hcap_⟩ := R_shape hR_ (by simp) (by decide)
          subst hv_
          have hg_' : w6.drew.grownBy w7 v.ownBlock := hg_
          have HL7 := Aside0.mk (LedgerAt.appended HL6.out.drew hg_' hR_)
          have HB7 := Aside0.mk hb_
          have HS7 : Aside0 (w6.heap.size ≤ w7.heap.size) := ⟨hg_'.size⟩
          refine hK.out _ _ (show _ ∧ _ from ⟨HL7.out.1.cell (i := 0) rfl, (HG6.out.drew.of_block (hg_'.block g6 (HG6.out.drew.lt (by simp)) HNE.out)).range⟩) (fun hHeld => ?_)
          clear hK K
          clear hR_ hb_ hg_ hg_'
          refine norm_ (a' := ?_) ?_ ?_
          rotate_left
          · show Act.put _ (some 37) _ = _
            simp only [Act.put, List.setIfInBounds_toArray, List.set_cons_zero, List.set_cons_succ, i64_w, i32_w]
            rfl
          refine pu HT_ 8 (some 38) lnew_r12.l8 (h := ?_)
          refine pu HT_ 9 (some 39) lnew_r12.l9 (h := ?_)
          have HBF : Aside0 (Below w.heap.size w (w7.setCell ⟨L, 0, none⟩ (.slice (some ⟨bv, 0, none⟩) (accs ++ [(f, 0)]).length cap)) ∧ w1.heap.size ≤ (w7.setCell ⟨L, 0, none⟩ (.slice (some ⟨bv, 0, none⟩) (accs ++ [(f, 0)]).length cap)).heap.size) := ⟨HB7.out.setCell (p := ⟨L, 0, none⟩) HLL.out _, by rw [World.size_setCell]; exact Nat.le_trans HS6.out HS7.out⟩
          refine last_ (i := 10) (N := none) lnew_r12.l10 rfl rfl (one_of HT_.out (by kernel_rfl)) (by decide) (fun K hK => ?_)
          refine skip_ (w1 := w7.setCell ⟨L, 0, none⟩ (.slice (some ⟨bv, 0, none⟩) (accs ++ [(f, 0)]).length cap)) (by rfl) rfl ?_ ?_
          · have s0 := HL7.out.1.cell (i := 0) rfl
            have f0 := HL7.out.1.frozen 0 (by simp)
            go_simp
          refine hK.out _ _ ?_
          clear hK K
          refine done_ (done_of HT_.out (by kernel_rfl)) ?_
          clear HT_ HW_
          have n0_ := HL7.out.2
          have n2_ := HBF.out
          generalize World.setCell w7 _ _ = wf at n0_ n2_ ⊢
          have HFN := Aside0.mk (HFIN.out wf _ n0_ HAMT.out n2_)
          clear n0_ n2_
          go_wp2
          exact HFN.out
      · have ham : ledger_isAmount.f f = some false := by rw [amount_tells, decide_eq_false hamt]
        have HAM := Aside0.mk ham
        have hpre : Aside0 ((x < (l.length : Int) → ∃ ad, A = some ad ∧ w5.cell? (ad.add x.toNat) = some (.int .i64 f))) := ⟨fun h => by
          obtain ⟨ad, e, c0⟩ := Kd.at_int (Kd.C_below HC.out HB5.out) x hx0 (by omega)
          refine ⟨ad, e, ?_⟩
          rw [c0, HF.out]; rfl⟩
        have hxl : x < l.length := by
          rcases Decidable.em (x < (l.length : Int)) with h | h
          · exact h
          · exfalso
            have : f = 0 := by rw [hf, List.getD_eq_getElem?_getD, List.getElem?_eq_none (by omega)]; rfl
            rw [this] at hamt
            exact hamt ⟨by decide, by decide⟩
        have HNO : Aside0 (¬ NewOk l) := ⟨fun h => by have := h.2.1 x.toNat (by omega); rw [← HF.out] at this; exact hamt this⟩
        clear hf ham hamt
        obtain ⟨ad, rfl, c0⟩ := hpre.out hxl
        go_upto_region 10 with (fail)
        have n0_ := HL5.out.set_far (g := g6) (by have := HL1.out.box.lt (by simp); have := HG6s.out; omega) (by have := HL1.out.grid.lt (by simp); have := HG6s.out; omega) HNE.out (.int .i64 f)
        have n1_ := HG5.out.set 0 (by simp) (.int .i64 f)
        have n2_ := HB5.out.setCell (p := ⟨g6, 0, none⟩) (show w.heap.size ≤ g6 by have := HG6s.out; have := HS1.out; omega) (.int .i64 f)
        have n5_ : w1.heap.size ≤ (w5.setCell ⟨g6, 0, none⟩ (.int .i64 f)).heap.size := by rw [World.size_setCell]; exact HS5.out
        have n1_ : Lies (w5.setCell ⟨g6, 0, none⟩ (.int .i64 f)) g6 [.int .i64 f, .int .i64 0] := n1_
        generalize World.setCell w5 _ _ = w8 at n0_ n1_ n2_ n5_ ⊢
        clear g0 gf0 g1 c0
        have g0 := n1_.cell (i := 0) rfl
        have T5 := Aside0.mk n0_
        have T6 := Aside0.mk n1_
        have T7 := Aside0.mk n2_
        have T8 := Aside0.mk n5_
        clear n0_ n1_ n2_ n5_
        go_upto_region 12 with (go_at_call 22; go_loud ((with_reducible refine (ledger_isAmount.calls f _ _ HAM.out).mono ?_); rintro e w6 ⟨rfl, hd_⟩; have HD6 := Aside0.mk hd_.below; clear hd_))
        clear g0
        have n0_ := T5.out.below HD6.out
        have n1_ := T6.out.below HD6.out (T6.out.lt (by simp))
        have n2_ := T7.out.trans (HD6.out.mono T7.out.size)
        have n5_ := Nat.le_trans T8.out HD6.out.size
        have HL6 := Aside0.mk n0_
        have HG6 := Aside0.mk n1_
        have HB6 := Aside0.mk n2_
        have HS6 := Aside0.mk n5_
        clear n0_ n1_ n2_ n5_
        go_wp2
        go_ret2
        exact ⟨.inr ⟨HNO.out, rfl⟩, HB6.out⟩
    · have hx10 : x = 10 := by omega
      obtain ⟨v, hLr⟩ := HLr.out
      rw [hx10] at hLr
      have HLr := Aside0.mk hLr
      have HJ := Aside0.mk (show ∀ j, j < 10 → 0 ≤ l.getD j 0 ∧ l.getD j 0 ≤ 1073741824 from fun j hj => HJ.out j (by omega))
      have HAL : Aside0 (∀ x ∈ accF l 10, 0 ≤ x.1 ∧ x.1 ≤ 1073741824 ∧ 0 ≤ x.2 ∧ x.2 ≤ 1073741824) := ⟨fun p hp => by
        obtain ⟨j, hj, rfl⟩ := List.mem_map.1 hp
        have := HJ.out j (List.mem_range.1 hj)
        exact ⟨this.1, this.2, Int.le_refl _, show (0 : Int) ≤ 1073741824 by decide⟩⟩
      obtain ⟨s, hs⟩ : ∃ s, s = sumA (accF l 10) := ⟨_, rfl⟩
      have HS := Aside0.mk hs
      have HIS : Aside0 (∀ W, LedgerAt w.heap.size W L q v (accF l 10) → Calls Tryz.prog 23 #[.pointer (some ⟨L, 0, none⟩)] W fun e w' => e = .returned (.int .i64 s) ∧ Below W.heap.size W w') := ⟨fun W h => by
        rw [hs]; exact issued_calls _ _ _ _ _ W h (by rw [accF_length]; decide) HAL.out⟩
      have HOKN : Aside0 (s ≤ 1073741824 ↔ NewOk l) := ⟨by
        rw [hs]
        exact ⟨fun h => ⟨by omega, HJ.out, h⟩, fun h => h.2.2⟩⟩
      clear hLr hs
      by_cases hsm : 1073741824 < s
      · have HNO : Aside0 (¬ NewOk l) := ⟨fun h => by have := HOKN.out.2 h; omega⟩
        go_wp2_with (go_at_call 23; go_loud ((with_reducible refine (HIS.out _ HLr.out).mono ?_); rintro e w9 ⟨rfl, hb_⟩; have HB9 := Aside0.mk hb_; clear hb_))
        go_ret2
        exact ⟨.inr ⟨HNO.out, rfl⟩, HBr.out.1.trans (HB9.out.mono HBr.out.1.size)⟩
      · have HNO : Aside0 (NewOk l) := ⟨HOKN.out.1 (by omega)⟩
        go_wp2_with (go_at_call 23; go_loud ((with_reducible refine (HIS.out _ HLr.out).mono ?_); rintro e w9 ⟨rfl, hb_⟩; have HB9 := Aside0.mk hb_; clear hb_))
        go_ret2
        exact ⟨.inl ⟨HNO.out, L, q, v, rfl, HLr.out.below HB9.out⟩, HBr.out.1.trans (HB9.out.mono HBr.out.1.size)⟩
end Go.Proofs.YtockdfnnhkhlkaaGreat.G

/- A block of a chain on which nothing was done yet. -/
namespace Go.Proofs.YtockdfnnhkhlkaaGreat.G
open Go.RowKit Go.Shelf Go.Proofs.YtockdfnnhkhlkaaGreatW Go.Proofs.YtockdfnnhkhlkaaGreatW.PrintWords Go.Proofs.YtockdfnnhkhlkaaGreatW.PrintLast Go.Proofs.YtockdfnnhkhlkaaGreatW.PrintMore
set_option linter.unusedVariables false
set_option linter.unusedSimpArgs false

def blk_r10.T : Bool × List (List Nat × List Nat) := (true, [([], []), ([], []), ([], []), ([2], [2]), ([3], [3]), ([4], [4]), ([], []), ([6], [6]), ([7], [7]), ([8], [8]), ([], []), ([10], [10]), ([11], [11]), ([12], [12]), ([], []), ([14], [14]), ([15], [15]), ([16], [16]), ([5, 9, 13, 17], [5, 9, 13, 17]), ([1, 18, 18], [1, 18]), ([0, 19, 19], [0, 19]), ([20, 20, 0, 1, 2, 3, 4, 5, 6, 7, 8, 9, 10, 11, 12, 13, 14, 15, 16, 17, 18, 19, 20], [20])])
def blk_r10.B : List Nat := [0, 0, 0, 4, 12, 28, 0, 64, 192, 448, 0, 1024, 3072, 7168, 0, 16384, 49152, 114688, 262140, 524286, 1048575, 2097151]
theorem blk_r10.tab : rtab .any (opsOf Tryz.f18 10) = blk_r10.T := by kernel_rfl
theorem blk_r10.bits : waitsOk blk_r10.T.2 blk_r10.B = true := by kernel_rfl
def blk_r10.l0 : Array Bool := bl 22 1
def blk_r10.l1 : Array Bool := bl 22 3
def blk_r10.l2 : Array Bool := bl 22 7
def blk_r10.l3 : Array Bool := bl 22 15
def blk_r10.l4 : Array Bool := bl 22 31
def blk_r10.l5 : Array Bool := bl 22 63
def blk_r10.l6 : Array Bool := bl 22 127
def blk_r10.l7 : Array Bool := bl 22 255
def blk_r10.l8 : Array Bool := bl 22 511
def blk_r10.l9 : Array Bool := bl 22 1023
def blk_r10.l10 : Array Bool := bl 22 2047
def blk_r10.l11 : Array Bool := bl 22 4095
def blk_r10.l12 : Array Bool := bl 22 8191
def blk_r10.l13 : Array Bool := bl 22 16383
def blk_r10.l14 : Array Bool := bl 22 32767
def blk_r10.l15 : Array Bool := bl 22 65535
def blk_r10.l16 : Array Bool := bl 22 131071
def blk_r10.l17 : Array Bool := bl 22 262143
def blk_r10.l18 : Array Bool := bl 22 524287
def blk_r10.l19 : Array Bool := bl 22 1048575
def blk_r10.l20 : Array Bool := bl 22 2097151
def blk_r10.l21 : Array Bool := bl 22 4194303

theorem setCell_self {w : World} {b i : Nat} {v : Value} (h : w.cell? ⟨b, i, none⟩ = some v) : w.setCell ⟨b, i, none⟩ v = w := by
  unfold World.cell? at h
  cases hb : w.heap[b]? with
  | none => simp [hb] at h
  | some o =>
    cases o with
    | cells c e f =>
      have hc : c[i]? = some v := by simpa [hb] using h
      have hs : c.setIfInBounds i v = c := by
        apply Array.ext_getElem?
        intro j
        rw [Array.getElem?_setIfInBounds]
        split
        · rename_i hij
          subst hij
          rw [hc]
          have := (Array.getElem?_eq_some_iff.1 hc).1
          simp [this]
        · rfl
      have hm : (w.setCell ⟨b, i, none⟩ v).heap = w.heap := by
        apply Array.ext_getElem?
        intro k
        by_cases e' : b = k
        · subst e'
          simp [World.setCell, Array.getElem?_modify, hb, hs]
        · simp [World.setCell, Array.getElem?_modify, e']
      unfold World.setCell at hm ⊢
      cases w
      simp only at hm ⊢
      rw [hm]
    | _ => simp [hb] at h

set_option maxRecDepth 100000 in
set_option maxHeartbeats 2000000 in
theorem taskClone_calls (w : World) : Calls Tryz.prog 43 #[.slice none 0 0] w fun e w' => e = .returned (.slice none 0 0) ∧ Below w.heap.size w w' := by
  have hq : ∀ W : World, (binOp .eql 62 (.slice none 0 0) (.slice none 0 0)).run Tryz.prog W = .ok (.bool true) W := fun W => Lib.run_eql_slice_nil W _ _ none 0 0 0 0 Tryz.underlying62
  go_enter Tryz.func43, Tryz.ntmps43
  go_wp2
  go_ret
  exact ⟨rfl, Below.refl _ _⟩
set_option maxRecDepth 100000 in
set_option maxHeartbeats 4000000 in
theorem due_calls (a : Nat) (now : Int) (w : World) (hA : Lies w a [.slice none 0 0]) : Calls Tryz.prog 33 #[.pointer (some ⟨a, 0, none⟩), .int .i64 now, .int .i64 2] w fun e w' => e = .returned (.slice none 0 0) ∧ Below w.heap.size w w' := by
  have c0 := hA.cell (i := 0) rfl
  have f0 := hA.frozen 0 (by simp)
  have HA := Aside0.mk hA
  clear hA
  go_enter Tryz.func33, Tryz.ntmps33
  go_upto_region 4 with (fail)
  go_loopw [7] (fun i wr => i = .int .i64 0 ∧ wr = w) (fun _ _ => 0)
  case atStart => exact ⟨rfl, rfl⟩
  case round =>
    obtain ⟨rfl, hw_⟩ := hrel
    subst hw_
    go_wp2_with (go_at_call 43; go_loud ((with_reducible refine (taskClone_calls _).mono ?_); rintro e w1 ⟨rfl, hb1⟩; have HB1 := Aside0.mk hb1; have HA1 := Aside0.mk (HA.out.below hb1 (HA.out.lt (by simp))); clear hb1 c0 f0; have c0 := HA1.out.cell (i := 0) rfl; have f0 := HA1.out.frozen 0 (by simp)))
    go_ret
    refine ⟨rfl, ?_⟩
    rw [setCell_self c0]
    exact HB1.out
set_option maxRecDepth 100000 in
set_option maxHeartbeats 4000000 in
theorem ended_calls (c : Option Addr) (w : World) : Calls Tryz.prog 35 #[.pointer c, .slice none 0 0] w fun e w' => e = .returned (.slice none 0 0) ∧ w' = w := by
  go_enter Tryz.func35, Tryz.ntmps35
  go_upto_region 2 with (fail)
  go_loopw [13] (fun i wr => i = .int .i64 0 ∧ wr = w) (fun _ _ => 0)
  case atStart => exact ⟨rfl, rfl⟩
  case round =>
    obtain ⟨rfl, hw_⟩ := hrel
    subst hw_
    go_wp2
    go_ret
    exact ⟨rfl, rfl⟩

/-- A chain on which nothing was done yet, behind n blocks: its block c, its ledger's L, its Refer's r (its grid's g), its Agenda's a. -/
structure ChainAt (w : World) (c : Nat) (n : Int) (L V r p a g T cap : Nat) : Prop where
  chain : Lies w c [.int .i64 n, .pointer (some ⟨L, 0, none⟩), .pointer (some ⟨V, 0, none⟩), .pointer (some ⟨r, 0, none⟩), .pointer (some ⟨p, 0, none⟩), .pointer (some ⟨a, 0, none⟩)]
  refer : ReferAt w r g T cap
  agenda : Lies w a [.slice none 0 0]
  apart : c ≠ r ∧ c ≠ a ∧ c ≠ g ∧ c ≠ T
theorem ChainAt.below {w w' : World} {c : Nat} {n : Int} {L V r p a g T cap : Nat} (h : ChainAt w c n L V r p a g T cap) (hb : Below w.heap.size w w') : ChainAt w' c n L V r p a g T cap :=
  ⟨h.chain.below hb (h.chain.lt (by simp)), h.refer.below hb, h.agenda.below hb (h.agenda.lt (by simp)), h.apart⟩
theorem cell_far {w : World} {c i : Nat} {p : Addr} {u v : Value} (h : w.cell? p = some u) (hne : p.block ≠ c) : (w.setCell ⟨c, i, none⟩ v).cell? p = some u :=
  (World.cell?_setCell_other w _ _ _ (fun e => hne (by rw [← e]))).trans h
theorem ChainAt.set {w : World} {c : Nat} {n : Int} {L V r p a g T cap : Nat} (h : ChainAt w c n L V r p a g T cap) (m : Int) : ChainAt (w.setCell ⟨c, 0, none⟩ (.int .i64 m)) c m L V r p a g T cap :=
  ⟨h.chain.set 0 (by simp) _, ⟨⟨cell_far h.refer.refs.at1 (fun e => h.apart.1 e.symm), cell_far h.refer.refs.none (fun e => h.apart.2.2.1 e.symm)⟩, cell_far h.refer.at0 (fun e => h.apart.1 e.symm), cell_far h.refer.m0 (fun e => h.apart.2.2.2 e.symm), cell_far h.refer.m1 (fun e => h.apart.2.2.2 e.symm)⟩, h.agenda.set_far (fun e => h.apart.2.1 e.symm) _ _, h.apart⟩

set_option maxRecDepth 100000 in
set_option maxHeartbeats 8000000 in
theorem block_calls (c : Nat) (n : Int) (L V r p a g T cap : Nat) (w : World) (hC : ChainAt w c n L V r p a g T cap) (hn : 0 ≤ n) (hn1 : n < 1073741824) :
    Calls Tryz.prog 18 #[.pointer (some ⟨c, 0, none⟩)] w fun e w' => e = .returned (.slice none 0 0) ∧ ChainAt w' c (n + 1) L V r p a g T cap ∧ Below w.heap.size (w.setCell ⟨c, 0, none⟩ (.int .i64 (n + 1))) w' := by
  have e1 : Aside0 (IntKind.i64.wrap (n + 1) = n + 1) := ⟨IntWalk.i64_in _ (by omega)⟩
  have e1' : wrap64 (n + 1) = n + 1 := wrapI (by omega) (by omega)
  have hng : ¬ n ≥ 1073741824 := by omega
  have c0 := hC.chain.cell (i := 0) rfl
  have f0 := hC.chain.frozen 0 (by simp)
  have HC := Aside0.mk hC
  clear hC
  go_enter Tryz.func18, Tryz.ntmps18
  go_upto_region 5 with (fail)
  clear c0 f0
  have n0_ := HC.out.set (n + 1)
  obtain ⟨w2, hW2⟩ : ∃ w2, w2 = w.setCell ⟨c, 0, none⟩ (.int .i64 (n + 1)) := ⟨_, rfl⟩
  rw [← hW2] at n0_ ⊢
  have HW2 := Aside0.mk hW2
  clear hW2
  have HC2 := Aside0.mk n0_
  clear n0_
  have HS5 : Aside0 (∀ W, Below w2.heap.size w2 W → W.cell? ⟨c, 5, none⟩ = some (.pointer (some ⟨a, 0, none⟩)) ∧ W.cell? ⟨c, 0, none⟩ = some (.int .i64 (n + 1))) := ⟨fun W h => ⟨(HC2.out.below h).chain.cell rfl, (HC2.out.below h).chain.cell rfl⟩⟩
  go_region_held3 (fun w' => w'.cell? ⟨c, 5, none⟩ = some (.pointer (some ⟨a, 0, none⟩)) ∧ w'.cell? ⟨c, 0, none⟩ = some (.int .i64 (n + 1))) (first | exact HS5.out _ HB5.out | exact HS5.out _ (Below.drew (Below.refl _ _)))
    (first | (go_at_call 33; refine (due_calls a _ _ (HC2.out.below (Below.drew (Below.refl _ _))).agenda).mono ?_; rintro e w5 ⟨rfl, hb5⟩; have HB5 := Aside0.mk ((Below.drew (Below.refl w2.heap.size w2)).trans hb5); clear hb5))
  have HC5 := Aside0.mk (HC2.out.below HB5.out)
  go_upto_region 6 with (fail)
  go_loopw [32, 3] (fun i o wr => i = .int .i64 0 ∧ o = .slice none 0 0 ∧ wr = w5) (fun _ _ _ => 0)
  case atStart => exact ⟨rfl, rfl, rfl⟩
  case round =>
    obtain ⟨rfl, rfl, hw_⟩ := hrel
    subst hw_
    go_upto_region 10 with (fail)
    have HS10 : Aside0 (∀ W, Below wr.heap.size wr W → W.cell? ⟨c, 3, none⟩ = some (.pointer (some ⟨r, 0, none⟩)) ∧ W.cell? ⟨c, 1, none⟩ = some (.pointer (some ⟨L, 0, none⟩)) ∧ W.cell? ⟨c, 2, none⟩ = some (.pointer (some ⟨V, 0, none⟩)) ∧ W.cell? ⟨c, 0, none⟩ = some (.int .i64 (n + 1))) := ⟨fun W h => ⟨(HC5.out.below h).chain.cell rfl, (HC5.out.below h).chain.cell rfl, (HC5.out.below h).chain.cell rfl, (HC5.out.below h).chain.cell rfl⟩⟩
    refine start_ (n := 22) (S := fun w' => w'.cell? ⟨c, 3, none⟩ = some (.pointer (some ⟨r, 0, none⟩)) ∧ w'.cell? ⟨c, 1, none⟩ = some (.pointer (some ⟨L, 0, none⟩)) ∧ w'.cell? ⟨c, 2, none⟩ = some (.pointer (some ⟨V, 0, none⟩)) ∧ w'.cell? ⟨c, 0, none⟩ = some (.int .i64 (n + 1))) (ds := []) #[false, false, false, false, false, false, false, false, false, false, false, false, false, false, false, false, false, false, false, false, false, false] (by kernel_rfl) rfl rfl (HS10.out _ (Below.drew (Below.refl _ _))) (fun hHeld => ?_)
    refine with_tabW blk_r10.tab blk_r10.bits (fun HT_ HW_ => ?_)
    refine pu HT_ 0 (some 42) blk_r10.l0 (h := ?_)
    refine pu HT_ 1 (some 43) blk_r10.l1 (h := ?_)
    refine pu HT_ 2 (some 44) blk_r10.l2 (h := ?_)
    refine pu HT_ 3 (some 45) blk_r10.l3 (h := ?_)
    refine pu HT_ 4 (some 46) blk_r10.l4 (h := ?_)
    refine tk HT_ HW_ hHeld 5 (some 47) blk_r10.l5 (hr := by intro w' hs_; obtain ⟨s0, s1, s2, s3⟩ := hs_; go_simp; with_reducible rfl) (h := ?_)
    refine pu HT_ 6 (some 48) blk_r10.l6 (h := ?_)
    refine pu HT_ 7 (some 49) blk_r10.l7 (h := ?_)
    refine pu HT_ 8 (some 50) blk_r10.l8 (h := ?_)
    refine tk HT_ HW_ hHeld 9 (some 51) blk_r10.l9 (hr := by intro w' hs_; obtain ⟨s0, s1, s2, s3⟩ := hs_; go_simp; with_reducible rfl) (h := ?_)
    refine pu HT_ 10 (some 52) blk_r10.l10 (h := ?_)
    refine pu HT_ 11 (some 53) blk_r10.l11 (h := ?_)
    refine pu HT_ 12 (some 54) blk_r10.l12 (h := ?_)
    refine tk HT_ HW_ hHeld 13 (some 55) blk_r10.l13 (hr := by intro w' hs_; obtain ⟨s0, s1, s2, s3⟩ := hs_; go_simp; with_reducible rfl) (h := ?_)
    refine pu HT_ 14 (some 56) blk_r10.l14 (h := ?_)
    refine pu HT_ 15 (some 57) blk_r10.l15 (h := ?_)
    refine pu HT_ 16 (some 58) blk_r10.l16 (h := ?_)
    refine tk HT_ HW_ hHeld 17 (some 59) blk_r10.l17 (hr := by intro w' hs_; obtain ⟨s0, s1, s2, s3⟩ := hs_; go_simp; with_reducible rfl) (h := ?_)
    refine one_ (i := 18) (N := some 60) blk_r10.l18 rfl rfl (one_of HT_.out (by kernel_rfl)) (by decide) (fun K hK => ?_)
    refine goes_ Tryz.func36 (by kernel_rfl) rfl #[.pointer (some ⟨r, 0, none⟩), .pointer (some ⟨L, 0, none⟩), .pointer (some ⟨V, 0, none⟩), .int .i64 (n + 1)] (by rfl) rfl rfl (by (try simp only [List.map_toArray, List.map_cons, List.map_nil]); first | done | rfl) ?_
    refine (service_calls r g L V T cap _ _ (HC5.out.below (Below.drew (Below.refl _ _))).refer).mono ?_
    rintro e w7 ⟨rfl, hb7⟩
    refine ⟨_, rfl, ?_⟩
    have HB7 := Aside0.mk ((Below.drew (Below.refl wr.heap.size wr)).trans hb7)
    clear hb7
    refine hK.out _ _ (HS10.out _ HB7.out) (fun hHeld => ?_)
    clear hK K
    refine norm_ (a' := ?_) ?_ ?_
    rotate_left
    · show Act.put _ (some 60) _ = _
      simp only [Act.put, List.setIfInBounds_toArray, List.set_cons_zero, List.set_cons_succ, i64_w, i32_w]
      rfl
    refine one_ (i := 19) (N := some 61) blk_r10.l19 rfl rfl (one_of HT_.out (by kernel_rfl)) (by decide) (fun K hK => ?_)
    refine goes_ Tryz.func35 (by kernel_rfl) rfl #[.pointer (some ⟨c, 0, none⟩), .slice none 0 0] (by rfl) rfl rfl (by (try simp only [List.map_toArray, List.map_cons, List.map_nil]); first | done | rfl) ?_
    refine (ended_calls _ _).mono ?_
    rintro e w8 ⟨rfl, rfl⟩
    refine ⟨_, rfl, ?_⟩
    refine hK.out _ _ (HS10.out _ HB7.out) (fun hHeld => ?_)
    clear hK K
    refine norm_ (a' := ?_) ?_ ?_
    rotate_left
    · show Act.put _ (some 61) _ = _
      simp only [Act.put, List.setIfInBounds_toArray, List.set_cons_zero, List.set_cons_succ, i64_w, i32_w]
      rfl
    refine one_ (i := 20) (N := some 62) blk_r10.l20 rfl rfl (one_of HT_.out (by kernel_rfl)) (by decide) (fun K hK => ?_)
    refine value_ (v := .slice none 0 0) (w1 := w8) (by rfl) rfl ?_ ?_
    · go_simp
      first | done | rfl | (rw [app_nil]; rfl)
    refine hK.out _ _ (HS10.out _ HB7.out) (fun hHeld => ?_)
    clear hK K
    refine norm_ (a' := ?_) ?_ ?_
    rotate_left
    · show Act.put _ (some 62) _ = _
      simp only [Act.put, List.setIfInBounds_toArray, List.set_cons_zero, List.set_cons_succ, i64_w, i32_w]
      rfl
    refine pu HT_ 21 (some 2) blk_r10.l21 (h := ?_)
    refine done_ (done_of HT_.out (by kernel_rfl)) ?_
    clear HT_ HW_ hHeld
    go_wp2
    go_ret
    rw [← HW2.out]
    exact ⟨rfl, HC5.out.below HB7.out, (HB5.out.trans (HB7.out.mono HB5.out.size)).mono (by rw [HW2.out, World.size_setCell]; exact Nat.le_refl _)⟩
end Go.Proofs.YtockdfnnhkhlkaaGreat.G

/- chain.New of a thousand for each and two tracks; what a chain tells. -/
namespace Go.Proofs.YtockdfnnhkhlkaaGreat.G
open Go.RowKit Go.Shelf Go.Proofs.YtockdfnnhkhlkaaGreatW.PrintWords Go.Proofs.YtockdfnnhkhlkaaGreatW.PrintLast Go.Proofs.YtockdfnnhkhlkaaGreatW.PrintMore
set_option linter.unusedVariables false
set_option linter.unusedSimpArgs false

def thousandL : List Int := List.replicate 10 1000
theorem thousand_ok : NewOk thousandL := ⟨by decide, by decide, by decide⟩
/-- What a new chain is. -/
structure NewChain (B : Nat) (w : World) (c : Nat) (n : Int) (L q V r p a g T cap : Nat) (v : Value) : Prop where
  chain : ChainAt w c n L V r p a g T cap
  ledger : LedgerAt B w L q v (accF thousandL 10)
  apart : L ≠ c ∧ q ≠ c ∧ some c ≠ v.ownBlock
  above : B ≤ c

set_option maxRecDepth 100000 in
set_option maxHeartbeats 8000000 in
theorem chainNew_calls (A : Option Addr) (ca tb cap : Nat) (w : World) (hF : Kd.C (Kd.int .i64) w A 10 thousandL) (hca : 10 ≤ ca) (hA : w.rangeAt tb 0 trkA) (hB : w.rangeAt tb 18 trkB) (hC : k84.C w (some ⟨tb, 0, none⟩) 2 [trackA, trackB]) :
    Calls Tryz.prog 4 #[.slice A 10 ca, .slice (some ⟨tb, 0, none⟩) 2 cap] w fun e w' => ∃ c L q V r p a g T c2 v, e = .returned (.tuple #[.pointer (some ⟨c, 0, none⟩), .int .i64 0]) ∧ NewChain w.heap.size w' c 0 L q V r p a g T c2 v ∧ Below w.heap.size w w' := by
  have HF := Aside0.mk hF
  have HAB : Aside0 (∀ W, Below w.heap.size w W → W.rangeAt tb 0 trkA ∧ W.rangeAt tb 18 trkB) := ⟨fun W hb => ⟨fun j u hj => cell_below (hA j u hj) hb, fun j u hj => cell_below (hB j u hj) hb⟩⟩
  have HC := Aside0.mk hC
  have HCA := Aside0.mk hca
  clear hF hA hB hC hca
  have HLN : Aside0 (∀ W, Kd.C (Kd.int .i64) W A 10 thousandL → Calls Tryz.prog 8 #[.slice A 10 ca] W fun e w' => ∃ L q v, e = .returned (.tuple #[.pointer (some ⟨L, 0, none⟩), .int .i64 0]) ∧ LedgerAt W.heap.size w' L q v (accF thousandL 10) ∧ Below W.heap.size W w') := ⟨fun W h => (ledgerNew_calls A ca thousandL W h HCA.out).mono (by
    rintro e w' ⟨h1, h2⟩
    rcases h1 with ⟨_, L, q, v, he, hl⟩ | ⟨h3, _⟩
    · exact ⟨L, q, v, he, hl, h2⟩
    · exact absurd thousand_ok h3)⟩
  go_enter Tryz.func4, Tryz.ntmps4
  go_upto_region 7 with (first
    | (go_at_call 8; go_loud (refine (HLN.out _ HF.out).mono ?_; rintro e w1 ⟨L, q, v, rfl, hl, hb⟩; have HL1 := Aside0.mk hl; have B1 := Aside0.mk hb; clear hl hb))
    | (go_at_call 9; go_loud (refine (referNew_calls tb cap _ (HAB.out _ B1.out).1 (HAB.out _ B1.out).2 (Kd.C_below HC.out B1.out)).mono ?_; rintro e w2 ⟨r, g, T, c2, rfl, hr, hr1, hg, hT, hb⟩; have HR2 := Aside0.mk (And.intro hr (And.intro hr1 (And.intro hg hT))); have B2 := Aside0.mk (B1.out.trans (hb.mono B1.out.size)); have B12 := Aside0.mk hb; clear hr hr1 hg hT hb)))
  go_wp2_with (first
    | (go_at_call 10; go_loud ((with_reducible refine (votingNew_calls _).mono ?_); rintro e w3 ⟨V, rfl, hb⟩; have B3 := Aside0.mk hb; clear hb))
    | (go_at_call 11; go_loud ((with_reducible refine (preNew_calls _).mono ?_); rintro e w4 ⟨rfl, hb⟩; have B4 := Aside0.mk (B3.out.trans (hb.mono B3.out.size)); clear hb))
    | (go_at_call 12; go_loud ((with_reducible refine (agendaNew_calls _).mono ?_); rintro e w5 ⟨rfl, rfl⟩)))
  go_ret2
  have hs1 := B1.out.size
  have hs2 := B12.out.size
  have hs4 := B4.out.size
  have hb5 := below_alloc (below_alloc B4.out (.cells #[.slice none 0 0] 114)) (.cells #[.int .i64 0, .pointer (some ⟨L, 0, none⟩), .pointer (some ⟨V, 0, none⟩), .pointer (some ⟨r, 0, none⟩), .pointer (some ⟨w3.heap.size + 1 + 1, 0, none⟩), .pointer (some ⟨w4.heap.size, 0, none⟩)] 47)
  have hL := HL1.out.box.lt (by simp)
  have hq := HL1.out.grid.lt (by simp)
  have hv := Kd.R_lt HL1.out.row
  have hr := HR2.out
  have ha : Lies ((w4.alloc (.cells #[.slice none 0 0] 114)).alloc (.cells #[.int .i64 0, .pointer (some ⟨L, 0, none⟩), .pointer (some ⟨V, 0, none⟩), .pointer (some ⟨r, 0, none⟩), .pointer (some ⟨w3.heap.size + 1 + 1, 0, none⟩), .pointer (some ⟨w4.heap.size, 0, none⟩)] 47)) w4.heap.size [.slice none 0 0] := Lies.box (t := 114) (blk_alloc (blk_new w4 _) _)
  refine ⟨w4.heap.size + 1, L, q, V, r, w3.heap.size + 1 + 1, w4.heap.size, g, T, c2, v, rfl, ⟨⟨Lies.box (t := 47) ?_, hr.1.below hb5, ha, ?_⟩, ?_, ?_, ?_⟩, B2.out.trans (hb5.mono B2.out.size)⟩
  · have := blk_new (w4.alloc (.cells #[.slice none 0 0] 114)) (.cells #[.int .i64 0, .pointer (some ⟨L, 0, none⟩), .pointer (some ⟨V, 0, none⟩), .pointer (some ⟨r, 0, none⟩), .pointer (some ⟨w3.heap.size + 1 + 1, 0, none⟩), .pointer (some ⟨w4.heap.size, 0, none⟩)] 47)
    rwa [World.size_alloc] at this
  · have := hr.2.1.2
    have := hr.2.2.1
    have := hr.2.2.2
    exact ⟨by omega, by omega, by omega, by omega⟩
  · exact HL1.out.below (B12.out.trans (hb5.mono B12.out.size))
  · exact ⟨by omega, by omega, fun e => by have := hv _ e.symm; omega⟩
  · have := B2.out.size
    omega

set_option maxHeartbeats 2000000 in
theorem now_calls (c : Nat) (n : Int) (w : World) (hc : w.cell? ⟨c, 0, none⟩ = some (.int .i64 n)) : Calls Tryz.prog 6 #[.pointer (some ⟨c, 0, none⟩)] w fun e w' => e = .returned (.int .i64 n) ∧ w' = w := by
  go_enter Tryz.func6, Tryz.ntmps6
  go_wp2
  go_ret
  exact ⟨rfl, rfl⟩
set_option maxHeartbeats 2000000 in
theorem chainLedger_calls (c L : Nat) (w : World) (hc : w.cell? ⟨c, 1, none⟩ = some (.pointer (some ⟨L, 0, none⟩))) : Calls Tryz.prog 19 #[.pointer (some ⟨c, 0, none⟩)] w fun e w' => e = .returned (.pointer (some ⟨L, 0, none⟩)) ∧ w' = w := by
  go_enter Tryz.func19, Tryz.ntmps19
  go_wp2
  go_ret
  exact ⟨rfl, rfl⟩
end Go.Proofs.YtockdfnnhkhlkaaGreat.G

/- althinglaw14.known: a block of a new chain. -/
namespace Go.Proofs.YtockdfnnhkhlkaaGreat.G
open Go.RowKit Go.Shelf Go.Proofs.YtockdfnnhkhlkaaGreatW.PrintWords Go.Proofs.YtockdfnnhkhlkaaGreatW.PrintLast Go.Proofs.YtockdfnnhkhlkaaGreatW.PrintMore
set_option linter.unusedVariables false
set_option linter.unusedSimpArgs false

theorem results_row_tmp {P : Program} {fn : Func} {t u : Tmp} {ty : TypeId} (h : fn.results = #[.cell t ty, .tmp u]) (tmps : Array Value) {w : World} {g : Nat} {v : Value} (hp : tmps.getD t undef = .pointer (some ⟨g, 0, none⟩)) (hv : (loadVar ty ⟨g, 0, none⟩).run P w = .ok v w) : (results fn tmps).run P w = .ok (.tuple #[v, tmps.getD u undef]) w := by
  have hp' : tmps[t]?.getD undef = .pointer (some ⟨g, 0, none⟩) := by rw [← hp]; simp
  simp [results, h, hp', asAddr, hv]

set_option maxRecDepth 100000 in
set_option maxHeartbeats 4000000 in
theorem account_calls (B L q : Nat) (v : Value) (accs : List (Int × Int)) (a : Int) (w : World) (hL : LedgerAt B w L q v accs) (h0 : 0 ≤ a) (h1 : a < accs.length) :
    Calls Tryz.prog 37 #[.pointer (some ⟨L, 0, none⟩), .int .i64 a] w fun e w' => e = .returned (.tuple #[.agg #[.int .i64 (accs.getD a.toNat (0, 0)).1, .int .i64 (accs.getD a.toNat (0, 0)).2], .bool true]) ∧ Below w.heap.size w w' := by
  obtain ⟨A, c, rfl, hc, hC⟩ := Kd.R_reads hL.row
  have HC := Aside0.mk hC
  have HLA := Aside0.mk hL
  clear hC hL
  go_enter Tryz.func37, Tryz.ntmps37
  go_upto_region 1 with (fail)
  have n0_ := HLA.out.below (below_alloc (Below.refl _ _) (.cells #[.int .i64 0, .int .i64 0] 79))
  have n1_ : Lies (w.alloc (.cells #[.int .i64 0, .int .i64 0] 79)) w.heap.size [.int .i64 0, .int .i64 0] := Lies.box (t := 79) (blk_new w _)
  have n2_ := below_alloc (Below.refl w.heap.size w) (.cells #[.int .i64 0, .int .i64 0] 79)
  have n3_ : w.heap.size ≤ w.heap.size := Nat.le_refl _
  generalize w.alloc (.cells #[.int .i64 0, .int .i64 0] 79) = w1 at n0_ n1_ n2_ ⊢
  obtain ⟨ad, rfl, c0, c1⟩ := at_acc (Kd.C_below HC.out n2_) a h0 h1
  obtain ⟨x, hx⟩ : ∃ x, x = accs.getD a.toNat (0, 0) := ⟨_, rfl⟩
  rw [← hx] at c0 c1
  have HX := Aside0.mk hx
  clear hx
  have l0 := n0_.box.cell (i := 0) rfl
  have g0 := n1_.cell (i := 0) rfl
  have g1 := n1_.cell (i := 1) rfl
  have f0 := n1_.frozen 0 (by decide)
  have f1 := n1_.frozen 1 (by decide)
  have h0' : ¬ a < 0 := by omega
  have h1' : ¬ a ≥ (accs.length : Int) := by omega
  have HB := Aside0.mk n2_
  have HG := Aside0.mk n1_
  clear n0_ n1_ n2_ n3_
  go_wp2
  have n0_ := (HG.out.set 0 (by simp) (.int .i64 x.1)).set 1 (by simp) (.int .i64 x.2)
  have n1_ := (HB.out.setCell (p := ⟨w.heap.size, 0, none⟩) (Nat.le_refl _) (.int .i64 x.1)).setCell (p := ⟨w.heap.size, 1, none⟩) (Nat.le_refl _) (.int .i64 x.2)
  refine bodyPost_ret (results_row_tmp rfl _ rfl (run_loadVar_mid _ _ 0 79 [.int .i64 x.1, .int .i64 x.2] _ n0_.range Tryz.underlying79 rfl info_acc)) rfl ?_
  refine ⟨?_, n1_⟩
  have hx := HX.out
  subst hx
  simp [List.getD_eq_getElem?_getD, List.getElem?_eq_getElem (show a.toNat < accs.length by omega)]

set_option maxRecDepth 100000 in
set_option maxHeartbeats 4000000 in
theorem free_calls (B L q : Nat) (v : Value) (accs : List (Int × Int)) (a : Int) (w : World) (hL : LedgerAt B w L q v accs) (h0 : 0 ≤ a) (h1 : a < accs.length) :
    Calls Tryz.prog 20 #[.pointer (some ⟨L, 0, none⟩), .int .i64 a] w fun e w' => e = .returned (.int .i64 (accs.getD a.toNat (0, 0)).1) ∧ Below w.heap.size w w' := by
  have HLA := Aside0.mk hL
  have H0 := Aside0.mk h0
  have H1 := Aside0.mk h1
  clear hL h0 h1
  go_enter Tryz.func20, Tryz.ntmps20
  go_wp2_with (go_at_call 37; go_loud ((with_reducible refine (account_calls B L q v accs a _ HLA.out H0.out H1.out).mono ?_); rintro e w1 ⟨rfl, hb⟩; have HB := Aside0.mk hb; clear hb))
  go_ret
  exact ⟨rfl, below_alloc HB.out _⟩

theorem thousand14 : althinglaw14_thousand.f 20 = some thousandL := by kernel_rfl
set_option maxRecDepth 100000 in
set_option maxHeartbeats 8000000 in
theorem known14_calls (w : World) : Calls Tryz.prog 7 #[] w fun e w' => e = .returned (.bool true) ∧ Below w.heap.size w w' := by
  go_enter Tryz.func7, Tryz.ntmps7
  go_upto_region 4 with (first
    | (go_at_call 16; go_loud ((with_reducible refine (althinglaw14_thousand.calls 20 thousandL _ thousand14).mono ?_); rintro e w1 ⟨v1, rfl, hR, hb⟩; obtain ⟨A, ca, hv, hca, hC⟩ := Kd.R_reads hR; subst hv; have HC := Aside0.mk hC; have HCA := Aside0.mk hca; have B1 := Aside0.mk hb; clear hR hC hca hb))
    | (go_at_call 17; go_loud ((with_reducible refine (althinglaw14_tracks.calls [trackA, trackB] _ rfl).mono ?_); rintro e w2 ⟨v2, rfl, hR, hb⟩; obtain ⟨tb, c2, hv, hc2, hT, hTA, hTB⟩ := two_of_R hR; subst hv; obtain ⟨_, _, hC2⟩ := Kd.R_reads' hR; have HT := Aside0.mk (And.intro hTA (And.intro hTB hC2)); have HC1 := Aside0.mk (Kd.C_below HC.out hb); have B2 := Aside0.mk (B1.out.trans (hb.mono B1.out.size)); clear hR hb hc2 hT hTA hTB hC2))
    | (go_at_call 4; go_loud (refine (chainNew_calls A ca tb c2 _ HC1.out HCA.out HT.out.1 HT.out.2.1 HT.out.2.2).mono ?_; rintro e w3 ⟨c, L, q, V, r, p, a, g, T, c3, v, rfl, hN, hb⟩; have HN := Aside0.mk hN; have B3 := Aside0.mk (B2.out.trans (hb.mono B2.out.size)); have HS2 := Aside0.mk B2.out.size; clear hN hb)))
  go_upto_region 5 with (go_at_call 18; go_loud ((with_reducible refine (block_calls c 0 L V r p a g T c3 _ HN.out.chain (by decide) (by decide)).mono ?_); rintro e w4 ⟨rfl, hC, hb⟩; have HC4 := Aside0.mk hC; have HB4 := Aside0.mk hb; clear hC hb))
  have HN4 : Aside0 (NewChain w2.heap.size w4 c (0 + 1) L q V r p a g T c3 v) := ⟨⟨HC4.out, ((HN.out.ledger.set_far HN.out.apart.1 HN.out.apart.2.1 HN.out.apart.2.2 (.int .i64 (0 + 1))).below (by rw [World.size_setCell]; exact HB4.out)), HN.out.apart, HN.out.above⟩⟩
  have HB5 : Aside0 (Below w.heap.size w w4) := ⟨B3.out.trans (((Below.refl w.heap.size w3).setCell (p := ⟨c, 0, none⟩) (Nat.le_trans HS2.out HN.out.above) (.int .i64 (0 + 1))).trans (HB4.out.mono B3.out.size))⟩
  go_wp2_with (first
    | (go_at_call 6; go_loud (refine (now_calls c (0 + 1) _ (HN4.out.chain.chain.cell rfl)).mono ?_; rintro e w5 ⟨rfl, rfl⟩))
    | (go_at_call 19; go_loud (refine (chainLedger_calls c L _ (HN4.out.chain.chain.cell rfl)).mono ?_; rintro e w5 ⟨rfl, rfl⟩))
    | (go_at_call 20; go_loud (refine (free_calls _ L q v (accF thousandL 10) 1 _ HN4.out.ledger (by decide) (by rw [accF_length]; decide)).mono ?_; rintro e w6 ⟨rfl, hb⟩; have HB6 := Aside0.mk (HB5.out.trans (hb.mono HB5.out.size)); clear hb)))
  go_ret
  exact ⟨rfl, HB6.out⟩
end Go.Proofs.YtockdfnnhkhlkaaGreat.G

/- The reference's New of chapters 6, 11, 12, 14. -/
namespace Go.Proofs.YtockdfnnhkhlkaaGreat.G
open Go.RowKit Go.Shelf Go.Proofs.YtockdfnnhkhlkaaGreatW.PrintWords Go.Proofs.YtockdfnnhkhlkaaGreatW.PrintLast Go.Proofs.YtockdfnnhkhlkaaGreatW.PrintMore
set_option linter.unusedVariables false
set_option linter.unusedSimpArgs false

/-- A row of n elements of several cells is made. -/
theorem make_of {P : Program} (t e : TypeId) (sz n : Nat) (m : Int) (hm : m = n) (ht : P.underlying t = some (.slice e)) (hi : (P.info? e).map (fun i => (i.zero.isSome, i.size, decide (i.bytes ≤ 1000))) = some (true, sz, true)) (hn : n ≤ 1000) :
    ∃ cells : Array Value, cells.size = n * sz ∧ ∀ W : World, (Instr.makeSlice t (.int .i64 m) (.int .i64 m)).run P W = .ok (.slice (some ⟨W.heap.size, 0, none⟩) n n) (W.alloc (.cells cells e)) := by
  subst hm
  obtain ⟨i, hi', hq⟩ := Option.map_eq_some_iff.1 hi
  simp only [Prod.mk.injEq] at hq
  obtain ⟨hz, hs, hb⟩ := hq
  obtain ⟨z, hz⟩ := Option.isSome_iff_exists.1 hz
  have hb := of_decide_eq_true hb
  refine ⟨madeCells z.cells (n * sz), size_madeCells _ _, fun W => ?_⟩
  have h : i.bytes * n ≤ 1000 * 1000 := Nat.mul_le_mul hb hn
  have h2 : (i.bytes : Int) * (n : Int) ≤ 281474976710656 := by
    rw [← Int.natCast_mul]; omega
  have hr := run_make (P := P) W t e i z ht hi' hz .i64 .i64 n n (by omega) (Int.le_refl _) h2 (by omega)
  simp only [Int.toNat_natCast, hs] at hr
  exact hr
theorem sumA_accF_succ (l : List Int) (n : Nat) : sumA (accF l (n + 1)) = sumA (accF l n) + l.getD n 0 := by
  rw [accF_succ]; unfold sumA; simp
theorem sumA_accF_le (l : List Int) (n : Nat) (h : ∀ j, j < n → 0 ≤ l.getD j 0 ∧ l.getD j 0 ≤ 1073741824) : 0 ≤ sumA (accF l n) ∧ sumA (accF l n) ≤ 1073741824 * n := by
  induction n with
  | zero => simp [accF, sumA]
  | succ n ih =>
    have := ih (fun j hj => h j (by omega))
    have := h n (by omega)
    rw [sumA_accF_succ]; omega
theorem sumA_accF_more (l : List Int) (d : Nat) : sumA (accF l (l.length + d)) = sumA (accF l l.length) := by
  induction d with
  | zero => rfl
  | succ d ih =>
    rw [← Nat.add_assoc, sumA_accF_succ, ih, List.getD_eq_getElem?_getD, List.getElem?_eq_none (by omega)]; simp
theorem newOk_iff (l : List Int) (hl : l.length ≤ 10) : NewOk l ↔ (∀ j, j < l.length → 0 ≤ l.getD j 0 ∧ l.getD j 0 ≤ 1073741824) ∧ sumA (accF l l.length) ≤ 1073741824 := by
  have e : sumA (accF l 10) = sumA (accF l l.length) := by
    have := sumA_accF_more l (10 - l.length)
    rwa [show l.length + (10 - l.length) = 10 by omega] at this
  constructor
  · rintro ⟨_, h1, h2⟩
    exact ⟨fun j hj => h1 j (by omega), by rw [← e]; exact h2⟩
  · rintro ⟨h1, h2⟩
    refine ⟨hl, fun j hj => ?_, by rw [e]; exact h2⟩
    rcases Nat.lt_or_ge j l.length with h | h
    · exact h1 j h
    · rw [List.getD_eq_getElem?_getD, List.getElem?_eq_none h]; simp

set_option maxRecDepth 100000 in
set_option maxHeartbeats 16000000 in
theorem ref6New_calls (A : Option Addr) (c : Nat) (l : List Int) (w : World) (hC : Kd.C (Kd.int .i64) w A l.length l) :
    Calls Tryz.prog 13 #[.slice A l.length c] w fun e w' => ((NewOk l ∧ ∃ L : Nat, e = .returned (.tuple #[.pointer (some ⟨L, 0, none⟩), .int .i64 0])) ∨ (¬ NewOk l ∧ e = .returned (.tuple #[.pointer none, .int .i64 1]))) ∧ Below w.heap.size w w' := by
  by_cases hlen : 10 < l.length
  · have hlen' : (10 : Int) < (l.length : Int) := by omega
    have HNO : Aside0 (¬ NewOk l) := ⟨fun h => by have := h.1; omega⟩
    go_enter Tryz.func13, Tryz.ntmps13
    go_wp2
    go_ret2
    exact ⟨.inr ⟨HNO.out, rfl⟩, Below.refl _ _⟩
  have hlen' : ¬ (10 : Int) < (l.length : Int) := by omega
  have HC := Aside0.mk hC
  have HLN : Aside0 (l.length ≤ 10) := ⟨by omega⟩
  obtain ⟨cells, hcs, hmk⟩ := make_of (P := Tryz.prog) 115 120 3 10 10 rfl Tryz.underlying115 (by kernel_rfl) (by decide)
  have HCS := Aside0.mk hcs
  clear hC hlen hcs
  go_enter Tryz.func13, Tryz.ntmps13
  go_upto_region 4 with (fail)
  have n0_ : Lies ((w.alloc (.cells cells 120)).alloc (.cells #[.slice (some ⟨w.heap.size, 0, none⟩) 10 10] 117)) (w.heap.size + 1) [.slice (some ⟨w.heap.size, 0, none⟩) 10 10] := Lies.box (t := 117) (by have := blk_new (w.alloc (.cells cells 120)) (.cells #[.slice (some ⟨w.heap.size, 0, none⟩) 10 10] 117); rwa [World.size_alloc] at this)
  have n1_ : Lies ((w.alloc (.cells cells 120)).alloc (.cells #[.slice (some ⟨w.heap.size, 0, none⟩) 10 10] 117)) w.heap.size cells.toList := Lies.box (t := 120) (by rw [Array.toArray_toList]; exact blk_alloc (blk_new w _) _)
  have n2_ : Below w.heap.size w ((w.alloc (.cells cells 120)).alloc (.cells #[.slice (some ⟨w.heap.size, 0, none⟩) 10 10] 117)) := below_alloc (below_alloc (Below.refl _ _) _) _
  obtain ⟨w1, hw1⟩ : ∃ W, W = (w.alloc (.cells cells 120)).alloc (.cells #[.slice (some ⟨w.heap.size, 0, none⟩) 10 10] 117) := ⟨_, rfl⟩
  rw [← hw1] at n0_ n1_ n2_ ⊢
  clear hw1
  obtain ⟨g, hgd⟩ : ∃ g, g = w.heap.size := ⟨_, rfl⟩
  obtain ⟨L, hLd⟩ : ∃ L, L = w.heap.size + 1 := ⟨_, rfl⟩
  rw [← hLd, ← hgd] at n0_ ⊢
  rw [← hgd] at n1_
  have n3_ : L ≠ g := by omega
  have HL1 := Aside0.mk n0_
  have HG1 := Aside0.mk n1_
  have HB1 := Aside0.mk n2_
  have HNE := Aside0.mk n3_
  have HLEN : Aside0 (cells.toList.length = 30) := ⟨by rw [Array.length_toList, HCS.out]⟩
  have HGW : Aside0 (g = w.heap.size) := ⟨hgd⟩
  clear n0_ n1_ n2_ n3_ hLd hgd hmk
  go_upto_region 6 with (fail)
  go_loopw [6, 5] (fun i s wr => ∃ x y : Int, i = .int .i64 x ∧ s = .int .i64 y ∧ (0 ≤ x ∧ x ≤ l.length) ∧ Aside0 (y = sumA (accF l x.toNat)) ∧ Aside0 (∀ j, j < x.toNat → 0 ≤ l.getD j 0 ∧ l.getD j 0 ≤ 1073741824) ∧ Aside0 (Lies wr L [.slice (some ⟨g, 0, none⟩) 10 10]) ∧ Aside0 (∃ inner, inner.length = 30 ∧ Lies wr g inner) ∧ Aside0 (Below w.heap.size w wr)) (fun i _ _ => l.length - (intOf i).toNat)
  case atStart => exact ⟨0, 0, rfl, rfl, ⟨by omega, by omega⟩, ⟨by simp [sumA, accF]⟩, ⟨fun j h => absurd h (Nat.not_lt_zero j)⟩, HL1, ⟨_, HLEN.out, HG1.out⟩, HB1⟩
  case round =>
    obtain ⟨x, y, rfl, rfl, ⟨hx0, hx1⟩, HY, HJ, HLr, HGr, HBr⟩ := hrel
    by_cases hx : x < l.length
    · obtain ⟨inner, hil, hgr⟩ := HGr.out
      obtain ⟨ad, rfl, c0⟩ := Kd.at_int (Kd.C_below HC.out (HBr.out)) x hx0 (by omega)
      obtain ⟨f, hf⟩ : ∃ f, f = rd l x := ⟨_, rfl⟩
      rw [← hf] at c0
      have HFF : Aside0 (f = l.getD x.toNat 0) := ⟨hf⟩
      clear hf
      have hln := HLN.out
      have e1 : IntKind.i64.wrap (x + 1) = x + 1 := IntWalk.i64_in _ (by omega)
      have l0 := HLr.out.cell (i := 0) rfl
      have hi0 : x.toNat * 3 < inner.length := by omega
      obtain ⟨u, hu⟩ : ∃ u, inner[x.toNat * 3]? = some u := ⟨_, List.getElem?_eq_getElem hi0⟩
      have g0 := hgr.cell hu
      have gf := hgr.frozen (x.toNat * 3) hi0
      have HGR := Aside0.mk hgr
      have HIL := Aside0.mk hil
      have HI0 := Aside0.mk hi0
      clear hgr hil hi0 hu HGr
      have hx10 : x < 10 := by omega
      by_cases hbad : 0 ≤ f ∧ f ≤ 1073741824
      · have hs := sumA_accF_le l x.toNat HJ.out
        have E2 : Aside0 (wrap64 (y + f) = y + f) := ⟨wrapI (by have := HY.out; omega) (by have := HY.out; omega)⟩
        clear hs hln
        obtain ⟨hb0, hb1⟩ := hbad
        have q0 := (HLr.out.set_far HNE.out (x.toNat * 3) (.int .i64 f)).drew
        have q1 := (HGR.out.set (x.toNat * 3) HI0.out (.int .i64 f)).drew
        have q2 := (HBr.out.setCell (p := ⟨g, x.toNat * 3, none⟩) (Nat.le_of_eq HGW.out.symm) (.int .i64 f)).drew
        have Q0 := Aside0.mk q0
        have Q1 := Aside0.mk q1
        have Q2 := Aside0.mk q2
        have k0 := q0.cell (i := 0) rfl
        obtain ⟨ad2, hq2, k1⟩ := Kd.at_int (Kd.C_below HC.out (q2)) x hx0 (by omega)
        cases hq2
        have k1 : ((wr.setCell ⟨g, x.toNat * 3, none⟩ (.int .i64 f)).drew).cell? (ad.add x.toNat) = some (.int .i64 f) := by rw [k1]; exact congrArg (fun z => some (Value.int .i64 z)) HFF.out.symm
        have k2 := q1.frozen (x.toNat * 3) (by rw [List.length_set]; exact HI0.out)
        have HKK := Aside0.mk (And.intro k0 (And.intro k1 k2))
        clear q0 q1 q2 k0 k1 k2
        go_upto_region 10 with (fail)
        go_region_held3 (fun w' => w'.cell? ⟨L, 0, none⟩ = some (.slice (some ⟨g, 0, none⟩) 10 10) ∧ w'.cell? (ad.add x.toNat) = some (.int .i64 f) ∧ w'.frozen? ⟨g, x.toNat * 3, none⟩ = false) (first | exact HKK.out | exact ⟨l0, c0, gf⟩ | go_keep) (fail)
        go_wp2
        refine ⟨⟨x + 1, y + f, rfl, by rw [show rd l x = f from HFF.out.symm, E2.out], ⟨by omega, by omega⟩, ⟨?_⟩, ⟨fun j hj => ?_⟩, Q0, ⟨_, ?_, Q1.out⟩, Q2⟩, by simp [intOf]; omega⟩
        · rw [show (x + 1).toNat = x.toNat + 1 by omega, sumA_accF_succ, ← HFF.out, HY.out]
        · rcases Nat.lt_or_ge j x.toNat with h | h
          · exact HJ.out j h
          · rw [show j = x.toNat by omega, ← HFF.out]; exact ⟨hb0, hb1⟩
        · rw [List.length_set]; exact HIL.out
      · have HNO : Aside0 (¬ NewOk l) := ⟨fun h => by
          have := ((newOk_iff l HLN.out).1 h).1 x.toNat (by omega)
          rw [← HFF.out] at this
          exact hbad this⟩
        clear hln
        by_cases hb0 : f < 0
        · go_wp2
          go_ret2
          exact ⟨.inr ⟨HNO.out, rfl⟩, HBr.out⟩
        · have hb1 : 1073741824 < f := by omega
          go_wp2
          go_ret2
          exact ⟨.inr ⟨HNO.out, rfl⟩, HBr.out⟩
    · have e3 : x.toNat = l.length := by omega
      have HIF := Aside0.mk (newOk_iff l HLN.out)
      have HY2 : Aside0 (y = sumA (accF l l.length)) := ⟨by rw [HY.out, e3]⟩
      have HJ2 : Aside0 (∀ j, j < l.length → 0 ≤ l.getD j 0 ∧ l.getD j 0 ≤ 1073741824) := ⟨fun j hj => HJ.out j (by omega)⟩
      clear e3
      by_cases hy : 1073741824 < y
      · go_wp2
        go_ret2
        exact ⟨.inr ⟨fun h => by have := (HIF.out.1 h).2; have := HY2.out; omega, rfl⟩, HBr.out⟩
      · go_wp2
        go_ret2
        exact ⟨.inl ⟨HIF.out.2 ⟨HJ2.out, by have := HY2.out; omega⟩, _, rfl⟩, HBr.out⟩
end Go.Proofs.YtockdfnnhkhlkaaGreat.G

/- Tracks that may be: track.Is of any track, the way over a row of them. -/
namespace Go.Proofs.YtockdfnnhkhlkaaGreat.G
open Go.RowKit Go.Shelf Go.Proofs.YtockdfnnhkhlkaaGreatW.PrintWords Go.Proofs.YtockdfnnhkhlkaaGreatW.PrintLast Go.Proofs.YtockdfnnhkhlkaaGreatW.PrintMore
set_option linter.unusedVariables false
set_option linter.unusedSimpArgs false

/-- A track's cells. -/
def cellsT (x : S84) : List Value := [.int .i64 x.f0, .int .i64 x.f1, .int .i64 x.f2, .int .i64 x.f3, .int .i64 x.f4, .int .i64 x.f5, .int .i64 x.f6.f0, .int .i64 x.f6.f1, .int .i64 x.f6.f2, .int .i64 x.f6.f3, .int .i64 x.f6.f4, .int .i64 x.f7.f0, .int .i64 x.f7.f1, .int .i64 x.f7.f2, .int .i64 x.f7.f3, .int .i64 x.f7.f4, .int .i64 x.f8, .int .i64 x.f9]
def isT? (x : S84) : Option Bool := track_Is.f 8 x.f0 x.f1 x.f2 x.f3 x.f4 x.f5 x.f6.f0 x.f6.f1 x.f6.f2 x.f6.f3 x.f6.f4 x.f7.f0 x.f7.f1 x.f7.f2 x.f7.f3 x.f7.f4 x.f8 x.f9
def inZ (a lo hi : Int) : Bool := decide (lo ≤ a ∧ a ≤ hi)
theorem trackIsIn_f (a lo hi : Int) : track_isIn.f a lo hi = some (inZ a lo hi) := by
  unfold track_isIn.f inZ
  by_cases h : a ≥ lo
  · rw [if_pos h]; congr 1; exact decide_eq_decide.2 ⟨fun q => ⟨h, q⟩, fun q => q.2⟩
  · rw [if_neg h]; congr 1; exact (decide_eq_false (fun q => h q.1)).symm
theorem perIsIn_f (a lo hi : Int) : per_isIn.f a lo hi = some (inZ a lo hi) := by
  unfold per_isIn.f inZ
  by_cases h : a ≥ lo
  · rw [if_pos h]; congr 1; exact decide_eq_decide.2 ⟨fun q => ⟨h, q⟩, fun q => q.2⟩
  · rw [if_neg h]; congr 1; exact (decide_eq_false (fun q => h q.1)).symm
/-- May a curve be? -/
def curveOk (k a b c d : Int) : Bool :=
  if k = 1 then inZ a 0 1000000000 && inZ b 0 a && inZ c 1 1000000000 && d == 0
  else if k = 2 then inZ a 0 1000000000 && inZ b 0 a && inZ c 1 1000000000 && inZ d 1 1000000000
  else if k = 3 then inZ a 0 1000000000 && inZ b 1 1000000000 && inZ c 0 1000000000 && d == 0
  else false
theorem perIs_f (n : Nat) (k a b c d : Int) : per_Is.f (n + 1) k a b c d = some (curveOk k a b c d) := by
  unfold per_Is.f per_Is.j0 curveOk
  simp only [perIsIn_f, Option.bind_some]
  by_cases h1 : k = 1
  · simp only [h1, if_true]; cases inZ a 0 1000000000 <;> cases inZ b 0 a <;> cases inZ c 1 1000000000 <;> simp
  · by_cases h2 : k = 2
    · simp only [h1, h2, if_true]; cases inZ a 0 1000000000 <;> cases inZ b 0 a <;> cases inZ c 1 1000000000 <;> cases inZ d 1 1000000000 <;> simp
    · by_cases h3 : k = 3
      · simp only [h1, h2, h3, if_true]; cases inZ a 0 1000000000 <;> cases inZ b 0 a <;> cases inZ c 1 1000000000 <;> cases inZ b 1 1000000000 <;> cases inZ c 0 1000000000 <;> simp
      · simp only [h1, h2, h3, if_false]; cases inZ a 0 1000000000 <;> cases inZ b 0 a <;> cases inZ c 1 1000000000 <;> simp
/-- May a track be? -/
def okTrack (x : S84) : Bool :=
  inZ x.f0 1 12 && inZ x.f1 0 1073741824 && inZ x.f8 0 1073741824 && inZ x.f2 0 1000 && inZ x.f4 0 1000 && inZ x.f5 0 1000 && inZ x.f3 1 1000 && curveOk x.f6.f0 x.f6.f1 x.f6.f2 x.f6.f3 x.f6.f4 && curveOk x.f7.f0 x.f7.f1 x.f7.f2 x.f7.f3 x.f7.f4 && inZ x.f9 0 2
theorem isT_f (x : S84) : isT? x = some (okTrack x) := by
  unfold isT? track_Is.f okTrack
  simp only [trackIsIn_f, perIs_f, Option.bind_some]
  cases inZ x.f0 1 12 <;> simp
  cases inZ x.f1 0 1073741824 <;> simp
  cases inZ x.f8 0 1073741824 <;> simp
  cases inZ x.f2 0 1000 <;> simp
  cases inZ x.f4 0 1000 <;> simp
  cases inZ x.f5 0 1000 <;> simp
  cases inZ x.f3 1 1000 <;> simp
  cases curveOk x.f6.f0 x.f6.f1 x.f6.f2 x.f6.f3 x.f6.f4 <;> simp
  cases curveOk x.f7.f0 x.f7.f1 x.f7.f2 x.f7.f3 x.f7.f4 <;> simp
theorem isT_calls (x : S84) (w : World) : Calls Tryz.prog 25 #[.agg (cellsT x).toArray] w fun e w' => e = .returned (.bool (okTrack x)) ∧ Below w.heap.size w w' :=
  track_Is.calls 8 _ _ _ _ _ _ _ _ _ _ _ _ _ _ _ _ _ _ (okTrack x) w (isT_f x)

set_option maxRecDepth 100000 in
set_option maxHeartbeats 4000000 in
theorem trackBadG_calls (x : S84) (w : World) : Calls Tryz.prog 24 #[.agg (cellsT x).toArray] w fun e w' => e = .returned (.bool (!okTrack x)) ∧ Below w.heap.size w w' := by
  have HL : Aside0 ((cellsT x).length = 18) := ⟨rfl⟩
  have HI : Aside0 (∀ w : World, Calls Tryz.prog 25 #[.agg (cellsT x).toArray] w fun e w' => e = .returned (.bool (okTrack x)) ∧ Below w.heap.size w w') := ⟨isT_calls x⟩
  generalize cellsT x = L at HL HI ⊢
  go_enter Tryz.func24, Tryz.ntmps24
  go_wp2_with (first
    | ((with_reducible refine gate_dst (N := 1) rfl ?_); refine box_event ?hg (N := 1) ?hd (cs := L.toArray) (t := 84) ?hr ?_; (case hd => rfl); (case hg => rfl); (case hr => first | (go_simp; done) | (go_simp; rfl)); intro g1 hg_ w1 hbox_ hb_; have T1 := Aside0.mk (Lies.box hbox_); have B1 := Aside0.mk hb_; clear hg_ hbox_ hb_)
    | ((with_reducible refine gate_dst (N := 3) rfl ?_); refine wpList_load_mid rfl 84 _ rfl g1 0 rfl L _ T1.out.range Tryz.underlying84 rfl (by rw [HL.out]; exact size_track) ?_)
    | (go_at_call 25; go_loud (refine (HI.out _).mono ?_; rintro e w2 ⟨rfl, hb_⟩; have B2 := Aside0.mk (B1.out.trans (hb_.mono B1.out.size)); clear hb_)))
  go_ret
  exact ⟨rfl, B2.out⟩

set_option maxRecDepth 100000 in
set_option maxHeartbeats 16000000 in
theorem trackIndexG_calls (A : Option Addr) (cap : Nat) (ts : List S84) (w : World) (hC : k84.C w A ts.length ts) (hn : ts.length ≤ 4) :
    Calls Tryz.prog 40 #[.slice A ts.length cap, .func (.func 24) #[] #[]] w fun e w' => (∃ i : Int, e = .returned (.int .i64 i) ∧ ((i = -1 ∧ ∀ t ∈ ts, okTrack t = true) ∨ (0 ≤ i ∧ ¬ ∀ t ∈ ts, okTrack t = true))) ∧ Below w.heap.size w w' := by
  have HC := Aside0.mk hC
  have HN := Aside0.mk hn
  clear hC hn
  go_enter Tryz.func40, Tryz.ntmps40
  go_upto_region 2 with (fail)
  go_loopw [8] (fun i wr => ∃ x : Int, i = .int .i64 x ∧ (0 ≤ x ∧ x ≤ ts.length) ∧ Aside0 (∀ j, j < x.toNat → okTrack (ts.getD j z84) = true) ∧ Aside0 (Below w.heap.size w wr)) (fun i _ => ts.length - (intOf i).toNat)
  case atStart => exact ⟨0, rfl, ⟨by omega, by omega⟩, ⟨fun j h => absurd h (Nat.not_lt_zero j)⟩, ⟨Below.refl _ _⟩⟩
  case round =>
    obtain ⟨x, rfl, ⟨hx0, hx1⟩, HJ, HBr⟩ := hrel
    by_cases hx : x < ts.length
    · obtain ⟨ad, rfl, h0, h1, h2, h3, h4, h5, h6, h7, h8, h9, h10, h11, h12, h13, h14, h15, h16, h17⟩ := at_T84 (Kd.C_below HC.out HBr.out) x hx0 hx
      obtain ⟨t, ht⟩ : ∃ t, t = rd_T84 ts x := ⟨_, rfl⟩
      rw [← ht] at h0 h1 h2 h3 h4 h5 h6 h7 h8 h9 h10 h11 h12 h13 h14 h15 h16 h17
      have HT : Aside0 (t = ts.getD x.toNat z84 ∧ t ∈ ts) := ⟨ht, by rw [ht]; unfold rd_T84; rw [List.getD_eq_getElem?_getD, List.getElem?_eq_getElem (by omega)]; simp⟩
      have HB := Aside0.mk (trackBadG_calls t)
      have e1 : wrap64 (x + 1) = x + 1 := wrapI (by omega) (by have := HN.out; omega)
      clear ht
      cases hok : okTrack t with
      | true =>
        have HOK := Aside0.mk hok
        rw [hok] at HB
        clear hok
        go_wp2_with (go_at_call 24; go_loud (refine (HB.out _).mono ?_; rintro e w2 ⟨rfl, hb_⟩; have B2 := Aside0.mk (HBr.out.trans (hb_.mono HBr.out.size)); clear hb_))
        refine ⟨⟨x + 1, by rw [e1], ⟨by omega, by omega⟩, ⟨fun j hj => ?_⟩, B2⟩, by simp [intOf, e1]; omega⟩
        rcases Nat.lt_or_ge j x.toNat with h | h
        · exact HJ.out j h
        · rw [show j = x.toNat by omega, ← HT.out.1]; exact HOK.out
      | false =>
        have HOK := Aside0.mk hok
        rw [hok] at HB
        clear hok
        go_wp2_with (go_at_call 24; go_loud (refine (HB.out _).mono ?_; rintro e w2 ⟨rfl, hb_⟩; have B2 := Aside0.mk (HBr.out.trans (hb_.mono HBr.out.size)); clear hb_))
        go_ret
        exact ⟨⟨x, rfl, .inr ⟨hx0, fun h => by have := h t HT.out.2; rw [HOK.out] at this; cases this⟩⟩, B2.out⟩
    · have e3 : x = ts.length := by omega
      have HA : Aside0 (∀ t ∈ ts, okTrack t = true) := ⟨fun t ht => by
        obtain ⟨j, hj, rfl⟩ := List.getElem_of_mem ht
        have := HJ.out j (by omega)
        rwa [List.getD_eq_getElem?_getD, List.getElem?_eq_getElem hj] at this⟩
      go_wp2
      go_ret
      exact ⟨⟨-1, rfl, .inl ⟨rfl, HA.out⟩⟩, HBr.out⟩
end Go.Proofs.YtockdfnnhkhlkaaGreat.G

/- refer.New, chain.New of whatever is handed in. -/
namespace Go.Proofs.YtockdfnnhkhlkaaGreat.G
open Go.RowKit Go.Shelf Go.Proofs.YtockdfnnhkhlkaaGreatW.PrintWords Go.Proofs.YtockdfnnhkhlkaaGreatW.PrintLast Go.Proofs.YtockdfnnhkhlkaaGreatW.PrintMore
set_option linter.unusedVariables false
set_option linter.unusedSimpArgs false

/-- May there be such tracks? -/
def GoodT (ts : List S84) : Prop := 1 ≤ ts.length ∧ ts.length ≤ 4 ∧ ∀ t ∈ ts, okTrack t = true
set_option maxHeartbeats 4000000 in
theorem trackContainsG_calls (A : Option Addr) (cap : Nat) (ts : List S84) (w : World) (hC : k84.C w A ts.length ts) (hn : ts.length ≤ 4) :
    Calls Tryz.prog 26 #[.slice A ts.length cap, .func (.func 24) #[] #[]] w fun e w' => ((e = .returned (.bool false) ∧ ∀ t ∈ ts, okTrack t = true) ∨ (e = .returned (.bool true) ∧ ¬ ∀ t ∈ ts, okTrack t = true)) ∧ Below w.heap.size w w' := by
  have HC := Aside0.mk hC
  have HN := Aside0.mk hn
  clear hC hn
  go_enter Tryz.func26, Tryz.ntmps26
  go_upto_region 2 with (go_at_call 40; go_loud (refine (trackIndexG_calls A cap ts _ HC.out HN.out).mono ?_; rintro e w2 ⟨⟨i, rfl, hi⟩, hb_⟩; have B2 := Aside0.mk hb_; clear hb_; rcases hi with ⟨rfl, hi⟩ | ⟨hi0, hi⟩ <;> have HI := Aside0.mk hi <;> clear hi))
  · go_ret
    exact ⟨.inl ⟨rfl, HI.out⟩, B2.out⟩
  · go_ret
    exact ⟨.inr ⟨rfl, HI.out⟩, B2.out⟩
set_option maxRecDepth 100000 in
set_option maxHeartbeats 8000000 in
theorem referNewG_calls (A : Option Addr) (cap : Nat) (ts : List S84) (w : World) (hC : k84.C w A ts.length ts) :
    Calls Tryz.prog 9 #[.slice A ts.length cap] w fun e w' => ((GoodT ts ∧ ∃ r, e = .returned (.tuple #[.pointer (some ⟨r, 0, none⟩), .int .i64 0])) ∨ (¬ GoodT ts ∧ e = .returned (.tuple #[.pointer none, .int .i64 1]))) ∧ Below w.heap.size w w' := by
  have HC := Aside0.mk hC
  clear hC
  by_cases h0 : ts.length = 0
  · have HB : Aside0 (¬ GoodT ts) := ⟨fun h => by have := h.1; omega⟩
    rw [h0]
    go_enter Tryz.func9, Tryz.ntmps9
    go_wp2
    go_ret2
    exact ⟨.inr ⟨HB.out, rfl⟩, Below.refl _ _⟩
  · have z0 : ((ts.length : Int) == 0) = false := beq_eq_false_iff_ne.2 (by omega)
    by_cases h4 : 4 < ts.length
    · have HB : Aside0 (¬ GoodT ts) := ⟨fun h => by have := h.2.1; omega⟩
      have h4' : 4 < (ts.length : Int) := by omega
      go_enter Tryz.func9, Tryz.ntmps9
      go_wp2
      go_ret2
      exact ⟨.inr ⟨HB.out, rfl⟩, Below.refl _ _⟩
    · have h4' : ¬ 4 < (ts.length : Int) := by omega
      obtain ⟨ad, hA, _⟩ := HC.out.2.2 (by omega)
      subst hA
      have HN : Aside0 (1 ≤ ts.length ∧ ts.length ≤ 4) := ⟨by omega⟩
      have hcon := trackContainsG_calls (some ad) cap ts w HC.out (by omega)
      have HCON := Aside0.mk hcon
      clear hcon h0 h4
      go_enter Tryz.func9, Tryz.ntmps9
      go_upto_region 4 with (go_at_call 26; go_loud (refine HCON.out.mono ?_; rintro e w2 ⟨he, hb_⟩; have B2 := Aside0.mk hb_; clear hb_; rcases he with ⟨rfl, hi⟩ | ⟨rfl, hi⟩ <;> have HI := Aside0.mk hi <;> clear hi))
      · go_wp2_with (first
          | (go_at_call 27; go_loud (refine (trackClone_calls ad cap ts _ (Kd.C_below HC.out B2.out) HN.out.2).mono ?_; rintro e w3 ⟨v, rfl, hR, hb_⟩; have B3 := Aside0.mk (B2.out.trans (hb_.mono B2.out.size)); obtain ⟨T, c3, hv, _⟩ := Kd.R_reads hR; subst hv; clear hR hb_))
          | (go_at_call 28; go_loud ((with_reducible refine (gridNew2_calls _).mono ?_); rintro e w4 ⟨rfl, rfl⟩)))
        go_ret2
        exact ⟨.inl ⟨⟨HN.out.1, HN.out.2, HI.out⟩, _, rfl⟩, below_alloc (below_alloc B3.out _) _⟩
      · go_ret2
        exact ⟨.inr ⟨fun h => HI.out h.2.2, rfl⟩, B2.out⟩
set_option maxRecDepth 100000 in
set_option maxHeartbeats 8000000 in
theorem chainNewG_calls (A : Option Addr) (ca : Nat) (l : List Int) (B : Option Addr) (cb : Nat) (ts : List S84) (w : World) (hF : Kd.C (Kd.int .i64) w A l.length l) (hca : l.length ≤ ca) (hT : k84.C w B ts.length ts) :
    Calls Tryz.prog 4 #[.slice A l.length ca, .slice B ts.length cb] w fun e w' => (((NewOk l ∧ GoodT ts) ∧ ∃ c, e = .returned (.tuple #[.pointer (some ⟨c, 0, none⟩), .int .i64 0]) ∧ w'.cell? ⟨c, 0, none⟩ = some (.int .i64 0)) ∨ (¬ (NewOk l ∧ GoodT ts) ∧ e = .returned (.tuple #[.pointer none, .int .i64 1]))) ∧ Below w.heap.size w w' := by
  have HF := Aside0.mk hF
  have HT := Aside0.mk hT
  have HCA := Aside0.mk hca
  clear hF hT hca
  by_cases h1 : NewOk l
  · have HLN : Aside0 (∀ W, Kd.C (Kd.int .i64) W A l.length l → Calls Tryz.prog 8 #[.slice A l.length ca] W fun e w' => ∃ L : Nat, e = .returned (.tuple #[.pointer (some ⟨L, 0, none⟩), .int .i64 0]) ∧ Below W.heap.size W w') := ⟨fun W h => (ledgerNew_calls A ca l W h HCA.out).mono (by
      rintro e w' ⟨⟨_, L, q, v, he, _⟩ | ⟨h3, _⟩, h2⟩
      · exact ⟨L, he, h2⟩
      · exact absurd h1 h3)⟩
    by_cases h2 : GoodT ts
    · have HRN : Aside0 (∀ W, k84.C W B ts.length ts → Calls Tryz.prog 9 #[.slice B ts.length cb] W fun e w' => ∃ r : Nat, e = .returned (.tuple #[.pointer (some ⟨r, 0, none⟩), .int .i64 0]) ∧ Below W.heap.size W w') := ⟨fun W h => (referNewG_calls B cb ts W h).mono (by
        rintro e w' ⟨⟨_, r, he⟩ | ⟨h3, _⟩, h4⟩
        · exact ⟨r, he, h4⟩
        · exact absurd h2 h3)⟩
      have HOK : Aside0 (NewOk l ∧ GoodT ts) := ⟨h1, h2⟩
      clear h1 h2
      go_enter Tryz.func4, Tryz.ntmps4
      go_upto_region 7 with (first
        | (go_at_call 8; go_loud (refine (HLN.out _ HF.out).mono ?_; rintro e w1 ⟨L, rfl, hb⟩; have B1 := Aside0.mk hb; clear hb))
        | (go_at_call 9; go_loud (refine (HRN.out _ (Kd.C_below HT.out B1.out)).mono ?_; rintro e w2 ⟨r, rfl, hb⟩; have B2 := Aside0.mk (B1.out.trans (hb.mono B1.out.size)); clear hb)))
      go_wp2_with (first
        | (go_at_call 10; go_loud ((with_reducible refine (votingNew_calls _).mono ?_); rintro e w3 ⟨V, rfl, hb⟩; have B3 := Aside0.mk hb; clear hb))
        | (go_at_call 11; go_loud ((with_reducible refine (preNew_calls _).mono ?_); rintro e w4 ⟨rfl, hb⟩; have B4 := Aside0.mk (B3.out.trans (hb.mono B3.out.size)); clear hb))
        | (go_at_call 12; go_loud ((with_reducible refine (agendaNew_calls _).mono ?_); rintro e w5 ⟨rfl, rfl⟩)))
      go_ret2
      refine ⟨.inl ⟨HOK.out, _, rfl, ?_⟩, B2.out.trans ((below_alloc (below_alloc B4.out _) _).mono B2.out.size)⟩
      exact new_cell (by simp) _ _ 0
    · have HRN : Aside0 (∀ W, k84.C W B ts.length ts → Calls Tryz.prog 9 #[.slice B ts.length cb] W fun e w' => e = .returned (.tuple #[.pointer none, .int .i64 1]) ∧ Below W.heap.size W w') := ⟨fun W h => (referNewG_calls B cb ts W h).mono (by
        rintro e w' ⟨⟨h3, _⟩ | ⟨_, he⟩, h4⟩
        · exact absurd h3 h2
        · exact ⟨he, h4⟩)⟩
      have HOK : Aside0 (¬ (NewOk l ∧ GoodT ts)) := ⟨fun h => h2 h.2⟩
      clear h1 h2
      go_enter Tryz.func4, Tryz.ntmps4
      go_wp2_with (first
        | (go_at_call 8; go_loud (refine (HLN.out _ HF.out).mono ?_; rintro e w1 ⟨L, rfl, hb⟩; have B1 := Aside0.mk hb; clear hb))
        | (go_at_call 9; go_loud (refine (HRN.out _ (Kd.C_below HT.out B1.out)).mono ?_; rintro e w2 ⟨rfl, hb⟩; have B2 := Aside0.mk (B1.out.trans (hb.mono B1.out.size)); clear hb)))
      go_ret2
      exact ⟨.inr ⟨HOK.out, rfl⟩, B2.out⟩
  · have HLN : Aside0 (∀ W, Kd.C (Kd.int .i64) W A l.length l → Calls Tryz.prog 8 #[.slice A l.length ca] W fun e w' => e = .returned (.tuple #[.pointer none, .int .i64 1]) ∧ Below W.heap.size W w') := ⟨fun W h => (ledgerNew_calls A ca l W h HCA.out).mono (by
      rintro e w' ⟨⟨h3, _⟩ | ⟨_, he⟩, h2⟩
      · exact absurd h3 h1
      · exact ⟨he, h2⟩)⟩
    have HOK : Aside0 (¬ (NewOk l ∧ GoodT ts)) := ⟨fun h => h1 h.1⟩
    clear h1
    go_enter Tryz.func4, Tryz.ntmps4
    go_wp2_with (go_at_call 8; go_loud (refine (HLN.out _ HF.out).mono ?_; rintro e w1 ⟨rfl, hb⟩; have B1 := Aside0.mk hb; clear hb))
    go_ret2
    exact ⟨.inr ⟨HOK.out, rfl⟩, B1.out⟩
end Go.Proofs.YtockdfnnhkhlkaaGreat.G

/- The reference's New of chapter 12. -/
namespace Go.Proofs.YtockdfnnhkhlkaaGreat.G
open Go.RowKit Go.Shelf Go.Proofs.YtockdfnnhkhlkaaGreatW.PrintWords Go.Proofs.YtockdfnnhkhlkaaGreatW.PrintLast Go.Proofs.YtockdfnnhkhlkaaGreatW.PrintMore
set_option linter.unusedVariables false
set_option linter.unusedSimpArgs false

theorem ref10In_f (a lo hi : Int) : althingref10_in.f a lo hi = some (inZ a lo hi) := by
  unfold althingref10_in.f inZ
  by_cases h : a ≥ lo
  · rw [if_pos h]; congr 1; exact decide_eq_decide.2 ⟨fun q => ⟨h, q⟩, fun q => q.2⟩
  · rw [if_neg h]; congr 1; exact (decide_eq_false (fun q => h q.1)).symm
theorem ref4In_f (a lo hi : Int) : althingref4_in.f a lo hi = some (inZ a lo hi) := by
  unfold althingref4_in.f inZ
  by_cases h : a ≥ lo
  · rw [if_pos h]; congr 1; exact decide_eq_decide.2 ⟨fun q => ⟨h, q⟩, fun q => q.2⟩
  · rw [if_neg h]; congr 1; exact (decide_eq_false (fun q => h q.1)).symm
theorem ref4Is_f (k a b c d : Int) : althingref4_Is.f k a b c d = some (curveOk k a b c d) := by
  unfold althingref4_Is.f curveOk
  simp only [ref4In_f, Option.bind_some]
  by_cases h1 : k = 1
  · simp only [h1, if_true]; cases inZ a 0 1000000000 <;> cases inZ b 0 a <;> cases inZ c 1 1000000000 <;> simp
  · by_cases h2 : k = 2
    · simp only [h1, h2, if_true]; cases inZ a 0 1000000000 <;> cases inZ b 0 a <;> cases inZ c 1 1000000000 <;> cases inZ d 1 1000000000 <;> simp
    · by_cases h3 : k = 3
      · simp only [h1, h2, h3, if_true]; cases inZ a 0 1000000000 <;> cases inZ b 0 a <;> cases inZ c 1 1000000000 <;> cases inZ b 1 1000000000 <;> cases inZ c 0 1000000000 <;> simp
      · simp only [h1, h2, h3, if_false]
theorem ref10Is_f (x : S84) : althingref10_Is.f x.f0 x.f1 x.f2 x.f3 x.f4 x.f5 x.f6.f0 x.f6.f1 x.f6.f2 x.f6.f3 x.f6.f4 x.f7.f0 x.f7.f1 x.f7.f2 x.f7.f3 x.f7.f4 x.f8 x.f9 = some (okTrack x) := by
  unfold althingref10_Is.f okTrack
  simp only [ref10In_f, ref4Is_f, Option.bind_some]
  cases inZ x.f0 1 12 <;> simp
  cases inZ x.f1 0 1073741824 <;> simp
  cases inZ x.f8 0 1073741824 <;> simp
  cases inZ x.f2 0 1000 <;> simp
  cases inZ x.f4 0 1000 <;> simp
  cases inZ x.f5 0 1000 <;> simp
  cases inZ x.f3 1 1000 <;> simp
  cases curveOk x.f6.f0 x.f6.f1 x.f6.f2 x.f6.f3 x.f6.f4 <;> simp
  cases curveOk x.f7.f0 x.f7.f1 x.f7.f2 x.f7.f3 x.f7.f4 <;> simp
theorem ref10Is_calls (x : S84) (w : World) : Calls Tryz.prog 31 #[.agg (cellsT x).toArray] w fun e w' => e = .returned (.bool (okTrack x)) ∧ Below w.heap.size w w' :=
  althingref10_Is.calls _ _ _ _ _ _ _ _ _ _ _ _ _ _ _ _ _ _ (okTrack x) w (ref10Is_f x)

set_option maxRecDepth 100000 in
set_option maxHeartbeats 8000000 in
theorem ref12New_calls (A : Option Addr) (cap : Nat) (ts : List S84) (w : World) (hC : k84.C w A ts.length ts) :
    Calls Tryz.prog 14 #[.slice A ts.length cap] w fun e w' => ((GoodT ts ∧ ∃ r : Nat, e = .returned (.tuple #[.pointer (some ⟨r, 0, none⟩), .int .i64 0])) ∨ (¬ GoodT ts ∧ e = .returned (.tuple #[.pointer none, .int .i64 1]))) ∧ Below w.heap.size w w' := by
  have HC := Aside0.mk hC
  clear hC
  by_cases h0 : ts.length = 0
  · have HB : Aside0 (¬ GoodT ts) := ⟨fun h => by have := h.1; omega⟩
    rw [h0]
    go_enter Tryz.func14, Tryz.ntmps14
    go_wp2
    go_ret2
    exact ⟨.inr ⟨HB.out, rfl⟩, Below.refl _ _⟩
  · have z0 : ¬ (ts.length : Int) < 1 := by omega
    by_cases h4 : 4 < ts.length
    · have HB : Aside0 (¬ GoodT ts) := ⟨fun h => by have := h.2.1; omega⟩
      have h4' : 4 < (ts.length : Int) := by omega
      go_enter Tryz.func14, Tryz.ntmps14
      go_wp2
      go_ret2
      exact ⟨.inr ⟨HB.out, rfl⟩, Below.refl _ _⟩
    · have h4' : ¬ 4 < (ts.length : Int) := by omega
      obtain ⟨ad, hA, _⟩ := HC.out.2.2 (by omega)
      subst hA
      have HN : Aside0 (1 ≤ ts.length ∧ ts.length ≤ 4) := ⟨by omega⟩
      clear h0 h4
      go_enter Tryz.func14, Tryz.ntmps14
      go_upto_region 4 with (fail)
      clear z0 h4'
      go_loopw [4] (fun i wr => ∃ x : Int, i = .int .i64 x ∧ (0 ≤ x ∧ x ≤ ts.length) ∧ Aside0 (∀ j, j < x.toNat → okTrack (ts.getD j z84) = true) ∧ Aside0 (Below w.heap.size w wr)) (fun i _ => ts.length - (intOf i).toNat)
      case atStart => exact ⟨0, rfl, ⟨by omega, by omega⟩, ⟨fun j h => absurd h (Nat.not_lt_zero j)⟩, ⟨Below.refl _ _⟩⟩
      case round =>
        obtain ⟨x, rfl, ⟨hx0, hx1⟩, HJ, HBr⟩ := hrel
        by_cases hx : x < ts.length
        · obtain ⟨ad', hq, h0, h1, h2, h3, h4, h5, h6, h7, h8, h9, h10, h11, h12, h13, h14, h15, h16, h17⟩ := at_T84 (Kd.C_below HC.out HBr.out) x hx0 hx
          cases hq
          obtain ⟨t, ht⟩ : ∃ t, t = rd_T84 ts x := ⟨_, rfl⟩
          rw [← ht] at h0 h1 h2 h3 h4 h5 h6 h7 h8 h9 h10 h11 h12 h13 h14 h15 h16 h17
          have HT : Aside0 (t = ts.getD x.toNat z84 ∧ t ∈ ts) := ⟨ht, by rw [ht]; unfold rd_T84; rw [List.getD_eq_getElem?_getD, List.getElem?_eq_getElem (by omega)]; simp⟩
          have HB := Aside0.mk (ref10Is_calls t)
          have e1 : wrap64 (x + 1) = x + 1 := wrapI (by omega) (by have := HN.out; omega)
          clear ht
          cases hok : okTrack t with
          | true =>
            have HOK := Aside0.mk hok
            rw [hok] at HB
            clear hok
            go_wp2_with (go_at_call 31; go_loud (refine (HB.out _).mono ?_; rintro e w2 ⟨rfl, hb_⟩; have B2 := Aside0.mk (HBr.out.trans (hb_.mono HBr.out.size)); clear hb_))
            refine ⟨⟨x + 1, by rw [e1], ⟨by omega, by omega⟩, ⟨fun j hj => ?_⟩, B2⟩, by simp [intOf, e1]; omega⟩
            rcases Nat.lt_or_ge j x.toNat with h | h
            · exact HJ.out j h
            · rw [show j = x.toNat by omega, ← HT.out.1]; exact HOK.out
          | false =>
            have HOK := Aside0.mk hok
            rw [hok] at HB
            clear hok
            go_wp2_with (go_at_call 31; go_loud (refine (HB.out _).mono ?_; rintro e w2 ⟨rfl, hb_⟩; have B2 := Aside0.mk (HBr.out.trans (hb_.mono HBr.out.size)); clear hb_))
            go_ret2
            exact ⟨.inr ⟨fun h => (by have := h.2.2 t HT.out.2; rw [HOK.out] at this; cases this), rfl⟩, B2.out⟩
        · have e3 : x = ts.length := by omega
          have HA : Aside0 (GoodT ts) := ⟨⟨HN.out.1, HN.out.2, fun t ht => by
            obtain ⟨j, hj, rfl⟩ := List.getElem_of_mem ht
            have := HJ.out j (by omega)
            rwa [List.getD_eq_getElem?_getD, List.getElem?_eq_getElem hj] at this⟩⟩
          go_wp2_with (first
            | ((with_reducible refine gate_dst (N := 25) rfl ?_); go_loud (refine Kd.R_lit k84 (w0 := w) w.heap.size 84 ?hg (N := 25) ?hd (xs := []) (inner := []) (ok := fun _ => True) (okp := fun _ => True) ?hr ?hp (fun _ hk => hk) trivial HBr.out HBr.out.size (by decide) ?_; (case hd => rfl); (case hg => rfl); (case hr => first | (go_simp; done) | (go_simp; rfl)); (case hp => exact Reps.none _ _); intro v1 w3 ho hb_ hg_ hnew_; clear hg_ hnew_; have HO := Aside0.mk ho; have B3 := Aside0.mk hb_; clear ho hb_))
            | ((with_reducible refine gate_builtin (b := .append) (xs := #[.tmp 25, .tmp 26]) rfl ?_); at_builtin; go_loud (refine Kd.R_append_rows k84 (w0 := w) w.heap.size rfl (.tmp 25) (.tmp 26) 23 84 (.agg trkZ.toArray) 144 rfl Tryz.underlying23 info_trackz rfl (by decide) (by decide) v1 [] ts _ _ _ (fun _ => True) (fun _ => False) rfl rfl HO.out (Kd.C_below HC.out B3.out) (fun x c h => by rw [k84_open h]; exact k84_mkM _ _ _ x) (fun _ h => h.elim) (fun _ _ => trivial) B3.out B3.out.size (by have := HN.out; simp; omega) ?_; intro v2 w5 ho hb hg hat; have B5 := Aside0.mk hb; obtain ⟨A2, c2, hv2, _⟩ := Kd.R_reads ho; subst hv2; clear ho hb hg hat)))
          go_ret2
          exact ⟨.inl ⟨HA.out, _, rfl⟩, below_alloc B5.out _⟩

end Go.Proofs.YtockdfnnhkhlkaaGreat.G

/- The reference's New of chapters 11 and 14. -/
namespace Go.Proofs.YtockdfnnhkhlkaaGreat.G
open Go.RowKit Go.Shelf Go.Proofs.YtockdfnnhkhlkaaGreatW.PrintWords Go.Proofs.YtockdfnnhkhlkaaGreatW.PrintLast Go.Proofs.YtockdfnnhkhlkaaGreatW.PrintMore
set_option linter.unusedVariables false
set_option linter.unusedSimpArgs false

set_option maxHeartbeats 4000000 in
theorem ref11New_calls (w : World) : Calls Tryz.prog 15 #[] w fun e w' => (∃ V : Nat, e = .returned (.pointer (some ⟨V, 0, none⟩))) ∧ Below w.heap.size w w' := by
  obtain ⟨c1, _, hm1⟩ := make_of (P := Tryz.prog) 124 293 7 12 12 rfl Tryz.underlying124 (by kernel_rfl) (by decide)
  obtain ⟨c2, _, hm2⟩ := make_of (P := Tryz.prog) 125 296 9 40 40 rfl Tryz.underlying125 (by kernel_rfl) (by decide)
  go_enter Tryz.func15, Tryz.ntmps15
  go_upto_region 1 with (fail)
  go_region
  all_goals
    go_wp2
    go_ret
    exact ⟨⟨_, rfl⟩, (below_alloc (below_alloc (below_alloc (Below.refl _ _) _) _) _).drew⟩

set_option maxRecDepth 100000 in
set_option maxHeartbeats 8000000 in
theorem ref14New_calls (A : Option Addr) (ca : Nat) (l : List Int) (B : Option Addr) (cb : Nat) (ts : List S84) (w : World) (hF : Kd.C (Kd.int .i64) w A l.length l) (hT : k84.C w B ts.length ts) :
    Calls Tryz.prog 5 #[.slice A l.length ca, .slice B ts.length cb] w fun e w' => (((NewOk l ∧ GoodT ts) ∧ ∃ c : Nat, e = .returned (.tuple #[.pointer (some ⟨c, 0, none⟩), .int .i64 0])) ∨ (¬ (NewOk l ∧ GoodT ts) ∧ e = .returned (.tuple #[.pointer none, .int .i64 1]))) ∧ Below w.heap.size w w' := by
  have HF := Aside0.mk hF
  have HT := Aside0.mk hT
  clear hF hT
  go_enter Tryz.func5, Tryz.ntmps5
  go_upto_region 1 with (fail)
  go_upto_region 2 with (go_at_call 13; go_loud (refine (ref6New_calls A ca l _ HF.out).mono ?_; rintro e w1 ⟨he, hb⟩; have B1 := Aside0.mk hb; clear hb; rcases he with ⟨hi, L, rfl⟩ | ⟨hi, rfl⟩ <;> have HI := Aside0.mk hi <;> clear hi))
  · go_upto_region 4 with (fail)
    go_upto_region 5 with (go_at_call 14; go_loud (refine (ref12New_calls B cb ts _ (Kd.C_below HT.out B1.out)).mono ?_; rintro e w2 ⟨he, hb⟩; have B2 := Aside0.mk (B1.out.trans (hb.mono B1.out.size)); clear hb; rcases he with ⟨hj, r, rfl⟩ | ⟨hj, rfl⟩ <;> have HJ := Aside0.mk hj <;> clear hj))
    · go_upto_region 7 with (fail)
      go_wp2_with (go_at_call 15; go_loud ((with_reducible refine (ref11New_calls _).mono ?_); rintro e w3 ⟨⟨V, rfl⟩, hb⟩; have B3 := Aside0.mk (B2.out.trans (hb.mono B2.out.size)); clear hb))
      go_ret2
      exact ⟨.inl ⟨⟨HI.out, HJ.out⟩, _, rfl⟩, below_alloc (below_alloc (below_alloc B3.out _) _) _⟩
    · go_wp2
      go_ret2
      exact ⟨.inr ⟨fun h => HJ.out h.2, rfl⟩, B2.out⟩
  · go_wp2
    go_ret2
    exact ⟨.inr ⟨fun h => HI.out h.1, rfl⟩, B1.out⟩
end Go.Proofs.YtockdfnnhkhlkaaGreat.G
