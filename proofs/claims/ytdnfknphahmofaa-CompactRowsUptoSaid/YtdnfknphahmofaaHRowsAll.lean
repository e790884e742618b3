/- althinglaw1.rows: all rows, one behind the other, each in memory of its own. -/
import Derived.Test.YtdnfknphahmofaaHRows
import Derived.Maps.OwnIn
namespace Go.Proofs.Ytdnfknphahmofaa.G
open Go.RowKit Go.Shelf Go.Proofs.YtdnfknphahmofaaW Go.Proofs.YtdnfknphahmofaaW.PrintWords Go.Proofs.YtdnfknphahmofaaW.PrintMore Go.Proofs.Ytdnfknphahmofaa.PNum
set_option linter.unusedVariables false
set_option linter.unusedSimpArgs false
attribute [local go_sem] Oper.semAt_some

abbrev KRow : Kd (List Int) := Kd.slice 5 (Kd.int .u8)
theorem not_cells_row {W : World} {row : Option Nat} {k : Nat} {cs : Array Value} {q : TypeId} (hk : W.heap[k]? = some (.cells cs q (0, 0))) (hr : ∀ r, row = some r → ∃ o : Obj, W.heap[r]? = some o ∧ o.isCells = false) : some k ≠ row := fun e' => by
  obtain ⟨o, ho, hc⟩ := hr k e'.symm
  rw [hk] at ho; cases ho; cases hc
theorem S_own_row {α : Type} {d : Kd α} {e base : Nat} {W W1 : World} {v : Value} {xs : List α} (h : Kd.S d e W base (fun _ => True) v xs) {row : Option Nat} (hg : W.grownBy W1 row) (hr : ∀ r, row = some r → ∃ o : Obj, W.heap[r]? = some o ∧ o.isCells = false) : Kd.S d e W1 base (fun _ => True) v xs :=
  Kd.S_mono (Kd.S_grown (Kd.S_bound h) hg (fun k hk => by obtain ⟨_, _, _, q, _, cells, hc⟩ := hk; exact not_cells_row hc hr)) (fun _ _ => trivial)
theorem own_down {W : World} {base base' e size : Nat} {v : Value} {n : Nat} {xs : List Value} (h : W.ownsRow base e size v n xs) (hb : base' ≤ base) : W.ownsRow base' e size v n xs := by
  refine ⟨h.1, ?_⟩
  rcases h.2 with h | ⟨g, cap, cur, h1, h2, h3⟩
  · exact .inl h
  · exact .inr ⟨g, cap, cur, h1, Nat.le_trans hb h2, h3⟩
theorem shut_from {D n₀ B : Nat} (t : TypeId) : OwnFrom D (fun (pre : List RowAt) W => ∃ v, Boxed W B t v ∧ Kd.S KRow 23 W n₀ (fun _ => True) v (pre.map (fun x => x.2.2))) := by
  rintro s X Y row ⟨v, hv, hS⟩ hg hr
  exact ⟨v, box_from t (fun _ : Unit => v) () X Y row hv hg hr, S_own_row hS hg (fun r e => (hr r e).2)⟩
theorem S_putObj {α : Type} {d : Kd α} {e base : Nat} {W : World} {v : Value} {xs : List α} (h : Kd.S d e W base (fun _ => True) v xs) {l : Nat} {o : Obj} (o' : Obj) (hl : W.heap[l]? = some o) (ho : o.isCells = false) : Kd.S d e (W.putObj l o') base (fun _ => True) v xs :=
  S_own_row h (grownBy_putObj' W l o') (fun r e => by cases e; exact ⟨o, hl, ho⟩)

set_option maxRecDepth 100000 in
set_option maxHeartbeats 8000000 in
theorem althinglaw1_rows.calls_ (A0 : Option Addr) (c0 : Nat) (b : List Int) (w : World) (hr0 : Kd.C (Kd.int .u8) w A0 b.length b) (hc0 : b.length ≤ c0) (hb : IsBytes b) (hbl : b.length < 140737488355328) (hlen : (rowsL b).length ≤ 10001) :
    Calls Try.prog 27 #[.slice A0 b.length c0] w fun e w' => ∃ v0_ : Value, e = .returned (.tuple #[v0_, .bool true]) ∧ Kd.S KRow 23 w' w.heap.size (fun _ => True) v0_ (rowsL b) ∧ Below w.heap.size w w' := by
  obtain ⟨i0, hi, hz0, hz1, hz2⟩ := info_parts info23
  refine (callsIn_wide (n := 6)).1 ?_
  have hlt : ∀ ad, A0 = some ad → 0 < b.length → ad.block < w.heap.size := fun ad e hn => by subst e; exact Kd.C_lt hr0 hn (by decide)
  refine callsIn_of_wp_marks Try.func27 rfl trivial ?_ rfl
  simp only [Try.ntmps27, List.size_toArray, List.length_cons, List.length_nil, Nat.reduceAdd, Nat.reduceSub, Array.replicate_succ, Array.replicate_zero, List.push_toArray, List.append_toArray, List.nil_append, List.cons_append]
  have hq : ∀ (W : World) (f : Fn) (ts bs : Array Value), (binOp .eql 53 (.func f ts bs) .nilFunc).run Try.prog W = .ok (.bool false) W := fun W f ts bs => run_eql_func W _ Try.underlying53 f ts bs
  gi_wp2_with (refine ⟨trivial, ?_⟩; gi_at_call 26; refine (rows_in _ (by decide) _ _ _ _).mono ?_; rintro e w' ⟨rfl, rfl⟩)
  obtain ⟨W0, hW0⟩ : ∃ W0, W0 = (((((w.alloc (.cells #[.slice none 0 0] 40)).alloc (.cells #[.bool false] 4)).alloc (.cells #[.slice A0 b.length c0] 23)).alloc (.cells #[.func (.func 22) #[] #[]] 45)).alloc (.cells #[.slice none 0 0] 40)) := ⟨_, rfl⟩
  rw [← hW0]
  have hsz : W0.heap.size = w.heap.size + 1 + 1 + 1 + 1 + 1 := by rw [hW0]; simp
  have bR : Boxed W0 (w.heap.size) 40 (.slice none 0 0) := by rw [hW0]; exact (((((Boxed.at (by simp) _ _).alloc _).alloc _).alloc _).alloc _)
  have bK : Boxed W0 (w.heap.size + 1) 4 (.bool false) := by rw [hW0]; exact ((((Boxed.at (by simp) _ _).alloc _).alloc _).alloc _)
  have bB : Boxed W0 (w.heap.size + 1 + 1) 23 (.slice A0 b.length c0) := by rw [hW0]; exact (((Boxed.at (by simp) _ _).alloc _).alloc _)
  have bN : Boxed W0 (w.heap.size + 1 + 1 + 1) 45 (.func (.func 22) #[] #[]) := by rw [hW0]; exact ((Boxed.at (by simp) _ _).alloc _)
  have bO : Boxed W0 (w.heap.size + 1 + 1 + 1 + 1) 40 (.slice none 0 0) := by rw [hW0]; exact (Boxed.at (by simp) _ _)
  have hB0 : Below w.heap.size w W0 := by
    rw [hW0]
    exact (((((Below.refl _ w).alloc (Nat.le_refl _) _).alloc (by simp) _).alloc (by simp; omega) _).alloc (by simp; omega) _).alloc (by simp; omega) _
  clear hW0
  refine wpIn_rangeFunc_T rfl (by decide) (gf := 39) (lb := #[.pointer (some ⟨w.heap.size + 1 + 1, 0, none⟩), .pointer (some ⟨w.heap.size + 1 + 1 + 1, 0, none⟩)]) rfl trivial (enters_of Try.func39 (by kernel_rfl) rfl)
    (rows_stops _ (by decide) (w.heap.size + 1 + 1) (w.heap.size + 1 + 1 + 1) A0 c0 b hb hbl hc0 (fun k => k < w.heap.size + 1 + 1 + 1 + 1) (by omega) (by omega) (fun ad e hn => Nat.lt_of_lt_of_le (hlt ad e hn) (by omega)) W0 (by intro k hk; omega) bB.cell bN.cell (Kd.C_below hr0 hB0)) (rowT_from _ _) keepsS_t (keepsS_b (by intro k hk; omega)) (Below.refl _ _) (fun _ => rfl)
    (fun (pre : List RowAt) W => (∃ v, Boxed W (w.heap.size + 1 + 1 + 1 + 1) 40 v ∧ Kd.S KRow 23 W W0.heap.size (fun _ => True) v (pre.map (fun x => x.2.2))) ∧ KeepsS (fun k => k < w.heap.size + 1 + 1 + 1 + 1) W0 W ∧ Below w.heap.size w W)
    (fun c (pre : List RowAt) W => False)
    (OwnFrom.and (shut_from _) (OwnFrom.and (keeps_from (fun k q => by omega) (fun k q => by omega)) (ownFrom_below (Nat.le_refl _) (by omega))))
    (fun c => fun _ _ _ _ hs _ _ => hs)
    ⟨⟨_, bO, Kd.S_nil _ _ _ _ _⟩, KeepsS.refl _ _, hB0⟩ ?a1 ?assign ?body ?done ?stop
  case assign =>
    intro l x W K hK
    gi_wp2
    exact hK
  case body =>
    rintro l pre ⟨x1, xv, xl⟩ W1 W2 ⟨⟨v, hv1, hS1⟩, hkp1, hB1⟩ hb12 ⟨hx1, hx2, hxv⟩ hlt'
    have hx1' : x1 = (pre.length : Int) := hx1
    subst hx1'
    have hv : Boxed W2 (w.heap.size + 1 + 1 + 1 + 1) 40 v := (hb12.block _ hv1.lt).trans hv1
    have hkp2 : KeepsS (fun k => k < w.heap.size + 1 + 1 + 1 + 1) W0 W2 := keepsS_t hkp1 (KeepsS.of_below hb12 (fun k q => by have := hkp1.1; omega))
    have hB2 : Below w.heap.size w W2 := hB1.trans (hb12.mono hB1.size)
    have hS2 : Kd.S KRow 23 W2 W0.heap.size (fun k => k < W1.heap.size) v (pre.map (fun x => x.2.2)) := Kd.S_mono (Kd.S_below (Kd.S_bound hS1) hb12) (fun k hk => hk.2.2.1)
    have hlts : ∀ k, v.ownBlock = some k → k < W1.heap.size := Kd.S_lt hS1
    have hsz2 := hB2.size
    have hsz3 := hkp2.1
    obtain ⟨Ax, cx, hxe⟩ := Kd.R_slice hxv
    have hxe' : xv = .slice Ax xl.length cx := hxe
    subst hxe'
    clear hxe
    have hxb : KRow.M W2 W0.heap.size (fun k => W1.heap.size ≤ k) xl [.slice Ax xl.length cx] := ⟨_, rfl, Kd.R_lower (Kd.R_mono (Kd.R_bound hxv) (fun k hk => hk.2.1)) hkp1.1⟩
    obtain ⟨f, hf, hT⟩ := Kd.S_tag hS2 (pre.map (fun x => x.2.2)).length (fun k => W1.heap.size ≤ k) (fun k h1 h2 => Nat.not_lt.2 h1 h2)
    have hT' : (Kd.tag f KRow).R 23 W2 W0.heap.size (fun _ => True) v (pre.map (fun x => x.2.2)).zipIdx := Kd.R_mono hT (fun _ _ => trivial)
    obtain ⟨h0, inner, hrow, hrep⟩ := hT'
    have hrow' : W2.ownsRow W0.heap.size 23 1 v pre.length inner := by have := hrow; rwa [List.length_zipIdx, List.length_map] at this
    have hln : ∀ W' : World, Sem.run Try.prog (Builtin.len_ #[40] 3 #[v]) W' = .ok (.int .i64 pre.length) W' := by
      intro W'
      obtain ⟨A, c, he⟩ := Kd.S_slice hS2
      rw [he]
      simp [Builtin.len_, go_sem, Try.underlying40, goInt]
    have hp1 : pre.length + 1 ≤ maxLen := by unfold maxLen; omega
    have hp2 : (pre.length + 1) * 24 ≤ 140737488355328 := by omega
    have ht : decide ((10000 : Int) < (pre.length : Int)) = false := decide_eq_false (by omega)
    have hc := hv.cell
    have hne : ∀ k, W1.heap.size ≤ k → True ∧ some k ≠ v.ownBlock := fun k hk => ⟨trivial, fun e => by have := hlts k e.symm; omega⟩
    clear hv1 hS1 hkp1 hB1 hS2 hxv
    gi_wp2_with (gi_at_builtin; go_loud (refine wpListIn_append_own_at _ rfl _ _ 40 rfl W0.heap.size 23 i0 (.slice none 0 0) 1 24 Try.underlying40 hi hz0 hz1 hz2 rfl (by decide) _ _ _ rfl (hrow'.alloc _) ⟨W2.heap.size, 0, none⟩ 1 1 [.slice Ax xl.length cx] rfl rfl (cell_one_new _ _ _) (by simp [Value.oneCell']) hp1 hp2 (by simp; omega) ?_; intro v' w1 hown' hgrow _ hat; obtain ⟨g', cap', rfl⟩ := ownsRow_succ hown'; obtain ⟨hv1, hv2, hr2, hk2, hb2⟩ := hv.appended (by decide) (own_down hrow' hB0.size) hsz2 (by omega) (own_down hown' hB0.size) hgrow; have hc1 := hv1.cell; have hf1 := hv1.frozen))
    have hg2 : W2.grownBy w1 v.ownBlock := World.grownBy.trans (World.grownBy_alloc W2 _ _) hgrow
    have hRa := Kd.R_appended h0 hrep (p := (xl, (pre.map (fun x => x.2.2)).length)) (KRow.M_mono (fun k hk => ⟨hk, hf k hk⟩) hxb) hne (fun _ _ => trivial) (by rw [List.length_zipIdx, List.length_map]; exact hown') hg2 (by rcases hat with e | e; exact .inl e; exact .inr ⟨_, e, by simp⟩)
    rw [← Kd.zip_snoc] at hRa
    have hS3 : Kd.S KRow 23 w1 W0.heap.size (fun _ => True) _ (pre.map (fun x => x.2.2) ++ [xl]) := ⟨f, hRa⟩
    have hS4 := Kd.S_set hS3 hv1 (by decide) 0 (.slice (some ⟨g', 0, none⟩) (pre.length + 1) cap')
    have hkb : KeepsS (fun k => k < w.heap.size + 1 + 1 + 1 + 1) W2 (w1.setCell ⟨w.heap.size + 1 + 1 + 1 + 1, 0, none⟩ (.slice (some ⟨g', 0, none⟩) (pre.length + 1) cap')) := by
      have hvb : ∀ k, some k = v.ownBlock → W0.heap.size ≤ k := fun k hk => by
        rcases hrow'.2 with ⟨e, _⟩ | ⟨g, cap, cur, e, hg, _⟩
        · rw [e] at hk; simp [Value.ownBlock] at hk
        · rw [e] at hk; simp [Value.ownBlock] at hk; omega
      have hk1 : KeepsS (fun k => k < w.heap.size + 1 + 1 + 1 + 1) W2 w1 := ⟨hg2.size, fun k hk => hg2.block k (by omega) (fun e => by have := hvb k e; omega)⟩
      exact hk1.setCell (by simp) _
    exact ⟨hk2.from _, hkb, ⟨_, hv2, by rw [List.map_append, ← hsz]; exact hS4⟩, keepsS_t hkp2 hkb, hB2.trans hb2⟩
  case done =>
    rintro D ys W hD hys ⟨⟨v, hv, hS⟩, hkp, hB⟩ hK
    have hl : ys.map (fun x => x.2.2) = rowsL b := by
      have h1 : (ys.map bare).map (·.2) = rowsL b := by rw [hys, placed_snds]
      rw [← h1, List.map_map]; rfl
    rw [hl] at hS
    have hln : ys.length = (rowsL b).length := by rw [← hl, List.length_map]
    obtain ⟨A, c, he⟩ := Kd.S_slice hS
    subst he
    have h1 := Boxed.keeps bR hkp (by omega)
    have h2 := Boxed.keeps bK hkp (by omega)
    have hc := hv.cell
    have hc1 := h1.cell
    have hf1 := h1.frozen
    have hc2 := h2.cell
    have hf2 := h2.frozen
    gi_wp2
    have hK1 := (KeepsOthers.setCell W ⟨w.heap.size, 0, none⟩ (.slice A (rowsL b).length c)).same D _ hK rfl
    have hK2 := (KeepsOthers.setCell (W.setCell ⟨w.heap.size, 0, none⟩ (.slice A (rowsL b).length c)) ⟨w.heap.size + 1, 0, none⟩ (.bool true)).same D _ hK1 rfl
    refine ⟨by simp, .inl ⟨_, _, rfl, run_takeDeferred hK2, ?_⟩⟩
    have e1 := h1.set (.slice A (rowsL b).length c)
    have e2' := h2.kept (grownBy_setCell' W w.heap.size (.slice A (rowsL b).length c)) (by simp)
    have e2 := e2'.set (.bool true)
    have c1' := (boxed_putObj (e1.kept (grownBy_setCell' _ (w.heap.size + 1) (.bool true)) (by simp)) (.deferred none) hK2 rfl).cell
    have c2' := (boxed_putObj e2 (.deferred none) hK2 rfl).cell
    have hS1 := Kd.S_set hS h1 (by decide) 0 (.slice A (rowsL b).length c)
    have hS2 := Kd.S_set hS1 e2' (by decide) 0 (.bool true)
    have hS3 := Kd.S_lower (S_putObj hS2 (.deferred none) hK2 rfl) hB0.size
    refine ⟨_, ?_, _, rfl, hS3, ?_⟩
    · simp [results, Try.f27, go_sem, c1', c2']
    · exact ((hB.setCell (p := ⟨w.heap.size, 0, none⟩) (Nat.le_refl _) _).setCell (p := ⟨w.heap.size + 1, 0, none⟩) (Nat.le_succ _) _).trans (belowK_b (w := w) (Nat.le_refl _) _ D _ _ (by omega) hK2 rfl rfl)
  case stop =>
    rintro D c pre W _ _ h0 _
    exact h0.elim

def althinglaw1_rows.f (b : List Int) : Option (List (List Int) × Bool) :=
  haveI : Decidable (IsBytes b) := inferInstanceAs (Decidable (∀ c ∈ b, 0 ≤ c ∧ c < 256))
  if IsBytes b ∧ b.length < 140737488355328 ∧ (rowsL b).length ≤ 10001 then some (rowsL b, true) else none
theorem althinglaw1_rows.calls (A0 : Option Addr) (c0 : Nat) (l0 : List Int) (r0 : List (List Int)) (r1 : Bool) (w : World) (hr0 : Kd.C (Kd.int .u8) w A0 l0.length l0) (hc0 : l0.length ≤ c0) (h : althinglaw1_rows.f l0 = some (r0, r1)) :
    Calls Try.prog 27 #[.slice A0 l0.length c0] w fun e w' => ∃ v0_ : Value, e = .returned (.tuple #[v0_, .bool r1]) ∧ Kd.S KRow 23 w' w.heap.size (fun _ => True) v0_ r0 ∧ Below w.heap.size w w' := by
  unfold althinglaw1_rows.f at h
  split at h
  · rename_i hh
    injection h with h
    injection h with h1 h2
    subst h1 h2
    exact althinglaw1_rows.calls_ A0 c0 l0 w hr0 hc0 hh.1 hh.2.1 hh.2.2
  · cases h

end Go.Proofs.Ytdnfknphahmofaa.G
