/- althinglaw15.rows: all rows, one behind the other, each in memory of its own (laid by mkzrows15.py). -/
import Derived.Test.YtockdfnnhkhlkaaGreatDoorMkHStep
import Derived.Test.YtockdfnnhkhlkaaGreatDoorMkZKnown15
import Derived.Maps.OwnIn
namespace Go.Proofs.YtockdfnnhkhlkaaGreatDoor.G
open Go.RowKit Go.Shelf Go.Proofs.YtockdfnnhkhlkaaGreatDoorW Go.Proofs.YtockdfnnhkhlkaaGreatDoorW.PrintWords Go.Proofs.YtockdfnnhkhlkaaGreatDoorW.PrintLast Go.Proofs.YtockdfnnhkhlkaaGreatDoorW.PrintMore Go.Proofs.YtockdfnnhkhlkaaGreatDoor.PNum
set_option linter.unusedVariables false
set_option linter.unusedSimpArgs false
attribute [local go_sem] Oper.semAt_some
def rows_r10.T : Bool × List (List Nat × List Nat) := (true, [([], []), ([], []), ([], []), ([1, 2], [1, 2]), ([3], [3]), ([0, 4, 3], [0, 4]), ([5, 5, 0, 1, 2, 3, 4, 5], [5])])
def rows_r10.B : List Nat := [0, 0, 0, 6, 14, 31, 63]
theorem rows_r10.tab : rtab .any (opsOf Tryz.f18 10) = rows_r10.T := by kernel_rfl
theorem rows_r10.bits : waitsOk rows_r10.T.2 rows_r10.B = true := by kernel_rfl
def rows_r10.l0 : Array Bool := bl 7 1
def rows_r10.l1 : Array Bool := bl 7 5
def rows_r10.l2 : Array Bool := bl 7 7
def rows_r10.l3 : Array Bool := bl 7 15
def rows_r10.l4 : Array Bool := bl 7 31
def rows_r10.l5 : Array Bool := bl 7 63
def rows_r10.l6 : Array Bool := bl 7 127

abbrev KRow : Kd (List Int) := Kd.slice 5 (Kd.int .u8)
theorem not_cells_row {W : World} {row : Option Nat} {k : Nat} {cs : Array Value} {q : TypeId} (hk : W.heap[k]? = some (.cells cs q (0, 0))) (hr : ∀ r, row = some r → ∃ o : Obj, W.heap[r]? = some o ∧ o.isCells = false) : some k ≠ row := fun e' => by
  obtain ⟨o, ho, hc⟩ := hr k e'.symm
  rw [hk] at ho; cases ho; cases hc
theorem S_own_row {α : Type} {d : Kd α} {e base : Nat} {W W1 : World} {v : Value} {xs : List α} (h : Kd.S d e W base (fun _ => True) v xs) {row : Option Nat} (hg : W.grownBy W1 row) (hr : ∀ r, row = some r → ∃ o : Obj, W.heap[r]? = some o ∧ o.isCells = false) : Kd.S d e W1 base (fun _ => True) v xs :=
  Kd.S_mono (Kd.S_grown (Kd.S_bound h) hg (fun k hk => by obtain ⟨_, _, _, q, _, cells, hc⟩ := hk; exact not_cells_row hc hr)) (fun _ _ => trivial)
theorem rows_short (b : List Int) : ∀ x ∈ rowsL b, x.length ≤ b.length := by
  have : ∀ n (b : List Int), b.length ≤ n → ∀ x ∈ rowsL b, x.length ≤ b.length := by
    intro n
    induction n with
    | zero =>
      intro b hb x hx
      have : b = [] := List.length_eq_zero_iff.1 (Nat.le_zero.1 hb)
      subst this
      rw [rowsL_none rfl] at hx
      cases hx
    | succ n ih =>
      intro b hb x hx
      cases hT : cutN b with
      | none => rw [rowsL_none hT] at hx; cases hx
      | some y =>
        obtain ⟨p, s⟩ := y
        have hs := cutN_size hT
        rw [rowsL_some hT] at hx
        rcases List.mem_cons.1 hx with rfl | hx
        · omega
        · have := ih (b.drop s) (by rw [List.length_drop]; omega) x hx
          rw [List.length_drop] at this
          omega
  exact this b.length b (Nat.le_refl _)
theorem shut_from {D n₀ B : Nat} (t : TypeId) : OwnFrom D (fun (pre : List RowAt) W => ∃ v, Boxed W B t v ∧ Kd.S KRow 50 W n₀ (fun _ => True) v (pre.map (fun x => x.2.2))) := by
  rintro s X Y row ⟨v, hv, hS⟩ hg hr
  exact ⟨v, box_from t (fun _ : Unit => v) () X Y row hv hg hr, S_own_row hS hg (fun r e => (hr r e).2)⟩
theorem S_putObj {α : Type} {d : Kd α} {e base : Nat} {W : World} {v : Value} {xs : List α} (h : Kd.S d e W base (fun _ => True) v xs) {l : Nat} {o : Obj} (o' : Obj) (hl : W.heap[l]? = some o) (ho : o.isCells = false) : Kd.S d e (W.putObj l o') base (fun _ => True) v xs :=
  S_own_row h (grownBy_putObj' W l o') (fun r e => by cases e; exact ⟨o, hl, ho⟩)

theorem S_row {α : Type} {d : Kd α} {e base : Nat} {okv : Nat → Prop} {W : World} {v : Value} {xs : List α} (h : Kd.S d e W base okv v xs) : ∀ k o, v.ownBlock = some k → W.heap[k]? = some o → o.isCells = true := by
  obtain ⟨f, h⟩ := h
  exact R_row h
theorem R_ge {α : Type} {d : Kd α} {e base : Nat} {okv : Nat → Prop} {W : World} {v : Value} {xs : List α} (h : d.R e W base okv v xs) : ∀ k, v.ownBlock = some k → base ≤ k := by
  intro k hk
  obtain ⟨_, inner, hown, _⟩ := h
  rcases hown.2 with ⟨e1, _⟩ | ⟨g, cap, cur, e1, hb, _⟩
  · rw [e1] at hk; simp [Value.ownBlock] at hk
  · rw [e1] at hk
    have : g = k := by simpa [Value.ownBlock] using hk
    omega
theorem Kd.S_ge {α : Type} {d : Kd α} {e base : Nat} {okv : Nat → Prop} {W : World} {v : Value} {xs : List α} (h : Kd.S d e W base okv v xs) : ∀ k, v.ownBlock = some k → base ≤ k := by
  obtain ⟨f, h⟩ := h
  exact R_ge h
set_option maxRecDepth 100000 in
set_option maxHeartbeats 8000000 in
theorem althinglaw15_rows.calls_ (A0 : Option Addr) (c0 : Nat) (b : List Int) (w : World) (hr0 : Kd.C (Kd.int .u8) w A0 b.length b) (hc0 : b.length ≤ c0) (hb : IsBytes b) (hbl : b.length ≤ 70000000000000) (hlen : (rowsL b).length ≤ 10001) :
    Calls Tryz.prog 18 #[.slice A0 b.length c0] w fun e w' => ∃ v0_ : Value, e = .returned (.tuple #[v0_, .bool true]) ∧ Kd.S KRow 50 w' w.heap.size (fun _ => True) v0_ (rowsL b) ∧ Below w.heap.size w w' := by
  obtain ⟨i0, hi, hz0, hz1, hz2⟩ := info_parts info50
  refine (callsIn_wide (n := 6)).1 ?_
  have hlt : ∀ ad, A0 = some ad → 0 < b.length → ad.block < w.heap.size := fun ad e hn => by subst e; exact Kd.C_lt hr0 hn (by decide)
  refine callsIn_of_wp_marks Tryz.func18 rfl trivial ?_ rfl
  simp only [Tryz.ntmps18, List.size_toArray, List.length_cons, List.length_nil, Nat.reduceAdd, Nat.reduceSub, Array.replicate_succ, Array.replicate_zero, List.push_toArray, List.append_toArray, List.nil_append, List.cons_append]
  have hq : ∀ (W : World) (f : Fn) (ts bs : Array Value), (binOp .eql 56 (.func f ts bs) .nilFunc).run Tryz.prog W = .ok (.bool false) W := fun W f ts bs => run_eql_func W _ Tryz.underlying56 f ts bs
  gi_wp2_with (refine ⟨trivial, ?_⟩; gi_at_call 21; refine (srows_in _ (by decide) _ _ _ _).mono ?_; rintro e w' ⟨rfl, rfl⟩)
  obtain ⟨W0, hW0⟩ : ∃ W0, W0 = (((((w.alloc (.cells #[.slice none 0 0] 51)).alloc (.cells #[.bool false] 4)).alloc (.cells #[.slice A0 b.length c0] 50)).alloc (.cells #[.func (.func 89) #[] #[]] 163)).alloc (.cells #[.slice none 0 0] 51)) := ⟨_, rfl⟩
  rw [← hW0]
  have hsz : W0.heap.size = w.heap.size + 1 + 1 + 1 + 1 + 1 := by rw [hW0]; simp
  have bR : Boxed W0 (w.heap.size) 51 (.slice none 0 0) := by rw [hW0]; exact (((((Boxed.at (by simp) _ _).alloc _).alloc _).alloc _).alloc _)
  have bK : Boxed W0 (w.heap.size + 1) 4 (.bool false) := by rw [hW0]; exact ((((Boxed.at (by simp) _ _).alloc _).alloc _).alloc _)
  have bB : Boxed W0 (w.heap.size + 1 + 1) 50 (.slice A0 b.length c0) := by rw [hW0]; exact (((Boxed.at (by simp) _ _).alloc _).alloc _)
  have bN : Boxed W0 (w.heap.size + 1 + 1 + 1) 163 (.func (.func 89) #[] #[]) := by rw [hW0]; exact ((Boxed.at (by simp) _ _).alloc _)
  have bO : Boxed W0 (w.heap.size + 1 + 1 + 1 + 1) 51 (.slice none 0 0) := by rw [hW0]; exact (Boxed.at (by simp) _ _)
  have hB0 : Below w.heap.size w W0 := by
    rw [hW0]
    exact (((((Below.refl _ w).alloc (Nat.le_refl _) _).alloc (by simp) _).alloc (by simp; omega) _).alloc (by simp; omega) _).alloc (by simp; omega) _
  clear hW0
  refine wpIn_rangeFunc_T rfl (by decide) (gf := 150) (lb := #[.pointer (some ⟨w.heap.size + 1 + 1, 0, none⟩), .pointer (some ⟨w.heap.size + 1 + 1 + 1, 0, none⟩)]) rfl trivial (enters_of Tryz.func150 (by kernel_rfl) rfl)
    (rows_stops _ (by decide) (w.heap.size + 1 + 1) (w.heap.size + 1 + 1 + 1) A0 c0 b hb (by omega) hc0 (fun k => k < w.heap.size + 1 + 1 + 1 + 1) (by omega) (by omega) (fun ad e hn => Nat.lt_of_lt_of_le (hlt ad e hn) (by omega)) W0 (by intro k hk; omega) bB.cell bN.cell (Kd.C_below hr0 hB0)) (rowT_from _ _) keepsS_t (keepsS_b (by intro k hk; omega)) (Below.refl _ _) (fun _ => rfl)
    (fun (pre : List RowAt) W => (∃ v, Boxed W (w.heap.size + 1 + 1 + 1 + 1) 51 v ∧ Kd.S KRow 50 W W0.heap.size (fun _ => True) v (pre.map (fun x => x.2.2))) ∧ KeepsS (fun k => k < w.heap.size + 1 + 1 + 1 + 1) W0 W ∧ Below w.heap.size w W)
    (fun c (pre : List RowAt) W => False)
    (OwnFrom.and (shut_from _) (OwnFrom.and (keeps_from (fun k q => by omega) (fun k q => by omega)) (ownFrom_below (Nat.le_refl _) (by omega))))
    (fun c => fun _ _ _ _ hs _ _ => hs)
    ⟨⟨_, bO, Kd.S_nil _ _ _ _ _⟩, KeepsS.refl _ _, hB0⟩ ?a1 ?assign ?body ?done ?stop
  case assign =>
    intro l x W K hK
    gi_wp2
    exact hK
  case body =>
    rintro l pre ⟨x1, xv, xl⟩ W1 W2 ⟨⟨v, hv1, hS1⟩, hkp1, hB1⟩ hb12 ⟨hx1, hx2, hxv⟩ hlt'
    have hx1' : x1 = (pre.length : Int) := hx1
    subst hx1'
    have hv : Boxed W2 (w.heap.size + 1 + 1 + 1 + 1) 51 v := (hb12.block _ hv1.lt).trans hv1
    have hkp2 : KeepsS (fun k => k < w.heap.size + 1 + 1 + 1 + 1) W0 W2 := keepsS_t hkp1 (KeepsS.of_below hb12 (fun k q => by have := hkp1.1; omega))
    have hB2 : Below w.heap.size w W2 := hB1.trans (hb12.mono hB1.size)
    have hS2 : Kd.S KRow 50 W2 W0.heap.size (fun k => k < W1.heap.size) v (pre.map (fun x => x.2.2)) := Kd.S_mono (Kd.S_below (Kd.S_bound hS1) hb12) (fun k hk => hk.2.2.1)
    have hlts : ∀ k, v.ownBlock = some k → k < W1.heap.size := Kd.S_lt hS1
    have hsz2 := hB2.size
    have hsz3 := hkp2.1
    have hxs : xl.length ≤ 70000000000000 := by
      have h1 := rows_short b _ (List.mem_of_getElem? hx2)
      have h2 : xl.length ≤ b.length := h1
      omega
    obtain ⟨Ax, cx, hxe⟩ := Kd.R_slice hxv
    have hxe' : xv = .slice Ax xl.length cx := hxe
    subst hxe'
    clear hxe
    have hxb : KRow.M W2 W0.heap.size (fun k => W1.heap.size ≤ k) xl [.slice Ax xl.length cx] := ⟨_, rfl, Kd.R_lower (Kd.R_mono (Kd.R_bound hxv) (fun k hk => hk.2.1)) hkp1.1⟩
    have hln : ∀ W' : World, Sem.run Tryz.prog (Builtin.len_ #[51] 3 #[v]) W' = .ok (.int .i64 pre.length) W' := by
      intro W'
      obtain ⟨A, c, he⟩ := Kd.S_slice hS2
      rw [he]
      simp [Builtin.len_, go_sem, Tryz.underlying51, goInt]
    have ht : decide ((10000 : Int) < (pre.length : Int)) = false := decide_eq_false (by omega)
    have hc := hv.cell
    have HV2 : Aside0 (Boxed W2.drew (w.heap.size + 1 + 1 + 1 + 1) 51 v) := ⟨hv.kept (below_grown (Below.drew (Below.refl _ _))) (by simp)⟩
    have HS10 := HV2.out.cell
    have HS2 : Aside0 (Kd.S KRow 50 W2.drew W0.heap.size (fun k => k < W2.drew.heap.size) v (pre.map (fun x => x.2.2))) := ⟨Kd.S_mono (Kd.S_below hS2 (Below.drew (Below.refl _ _))) (fun k hk => Nat.lt_of_lt_of_le hk hb12.size)⟩
    have HX2 : Aside0 (Kd.C (Kd.int .u8) W2.drew Ax xl.length xl) := ⟨Kd.C_below (Kd.R_reads' hxv).2.2 (Below.drew (Below.refl _ _))⟩
    have HXL : Aside0 (xl.length ≤ 70000000000000) := ⟨hxs⟩
    have HPL : Aside0 (pre.length ≤ 10001) := ⟨by omega⟩
    have HE2 : Aside0 ((Kd.int .u8).R 5 (W2.drew.alloc (.cells #[] 5)) W2.drew.heap.size (fun k => W2.drew.heap.size ≤ k) (.slice (some ⟨W2.drew.heap.size, 0, none⟩) 0 0) []) := ⟨by
      have h := own_lit_of (enc := Value.int .u8) W2.drew W2.drew.heap.size 5 [] (Nat.le_refl _) (by decide)
      exact Kd.R_of_own h (fun k hk => by have : W2.drew.heap.size = k := by simpa [Value.ownBlock] using hk
                                          omega)⟩
    have HW02 : Aside0 (W0.heap.size ≤ W2.drew.heap.size) := ⟨hkp2.1⟩
    have HVB : Aside0 (∀ k, v.ownBlock = some k → k < W2.drew.heap.size) := ⟨fun k hk => Nat.lt_of_lt_of_le (hlts k hk) hb12.size⟩
    have hvb : ∀ k, v.ownBlock = some k → W0.heap.size ≤ k := Kd.S_ge hS2
    have HNO : Aside0 (some (w.heap.size + 1 + 1 + 1 + 1) ≠ v.ownBlock) := ⟨fun e => by have := hvb _ e.symm; omega⟩
    have HSR : Aside0 (∀ (W' : World), Below W2.drew.heap.size W2.drew W' → ∀ k o, v.ownBlock = some k → W'.heap[k]? = some o → o.isCells = true) := ⟨fun W' hb => S_row (Kd.S_below HS2.out hb)⟩
    have HKP := Aside0.mk hkp2
    have HB2 := Aside0.mk hB2
    have HVG := Aside0.mk hvb
    have HSZ := Aside0.mk hsz
    clear hv1 hS1 hkp1 hB1 hS2 hxv hv hkp2 hB2 hvb hlts hsz2 hsz3 hb12 hxs
    gi_wp2
    refine startR_ (m := 7) (S := fun w' => w'.cell? ⟨w.heap.size + 1 + 1 + 1 + 1, 0, none⟩ = some v) (ds := [6]) #[false, false, false, false, false, false, false] (by intro o ho c; simp only [List.mem_toArray, List.mem_cons, List.not_mem_nil, or_false] at ho; (repeat' (rcases ho with rfl | ho)) <;> first | (intro e; cases e; done) | (subst ho; intro e; cases e)) (by rintro ⟨_, _, h_⟩; exact h_) (by kernel_rfl) rfl rfl HS10 (fun hHeld => ?_)
    refine with_tabW rows_r10.tab rows_r10.bits (fun HT_ HW_ => ?_)
    refine tk HT_ HW_ hHeld 0 (some 23) rows_r10.l0 (hr := by intro w' hs_; have s0 := hs_; go_simp; with_reducible rfl) (h := ?_)
    refine pu HT_ 2 (some 25) rows_r10.l1 (h := ?_)
    refine one_ (i := 1) (N := some 24) rows_r10.l2 rfl rfl (one_of HT_.out (by kernel_rfl)) (by decide) (fun K hK => ?_)
    refine value_ (v := .slice (some ⟨W2.drew.heap.size, 0, none⟩) 0 0) (w1 := W2.drew.alloc (.cells #[] 5)) (by rfl) rfl ?_ ?_
    · go_simp
      try rfl
    refine hK.out _ _ (HV2.out.alloc _).cell (fun hHeld => ?_)
    clear hK K
    refine norm_ (a' := ?_) ?_ ?_
    rotate_left
    · show Act.put _ (some 24) _ = _
      simp only [Act.put, List.setIfInBounds_toArray, List.set_cons_zero, List.set_cons_succ, i64_w, i32_w]
      rfl
    refine one_ (i := 3) (N := some 26) rows_r10.l3 rfl rfl (one_of HT_.out (by kernel_rfl)) (by decide) (fun K hK => ?_)
    refine Kd.R_append_rows_step (Kd.int .u8) (w0 := W2.drew) W2.drew.heap.size (by rfl) (.tmp 24) (.tmp 25) 50 5 (.int .u8 0) 1 rfl Tryz.underlying50 info5 rfl (by decide) (by decide) (.slice (some ⟨W2.drew.heap.size, 0, none⟩) 0 0) [] xl Ax xl.length cx (fun k => W2.drew.heap.size ≤ k) (fun _ => False) rfl rfl HE2.out (Kd.C_alloc HX2.out _) (fun _ _ h => h) (fun _ h => h.elim) (fun k hk => Nat.le_trans (Nat.le_of_lt (by simp)) hk) (below_alloc (Below.refl _ _) _) (by simp) (by have := HXL.out; simp only [List.length_nil, Nat.zero_add, Nat.mul_one]; omega) ?_
    intro v3 w3 hR_ hb_ hg_ _
    rw [List.nil_append] at hR_
    have HR3 := Aside0.mk hR_
    have HB3 := Aside0.mk hb_
    have HV3 := Aside0.mk (HV2.out.kept (below_grown HB3.out) (by simp))
    clear hR_ hb_ hg_
    refine hK.out _ _ HV3.out.cell (fun hHeld => ?_)
    clear hK K
    refine norm_ (a' := ?_) ?_ ?_
    rotate_left
    · show Act.put _ (some 26) _ = _
      simp only [Act.put, List.setIfInBounds_toArray, List.set_cons_zero, List.set_cons_succ, i64_w, i32_w]
      rfl
    refine one_ (i := 4) (N := some 27) rows_r10.l4 rfl rfl (one_of HT_.out (by kernel_rfl)) (by decide) (fun K hK => ?_)
    refine value_ (v := .slice (some ⟨w3.heap.size, 0, none⟩) 1 1) (w1 := w3.alloc (.cells [v3].toArray 50)) (by rfl) rfl ?_ ?_
    · obtain ⟨X3, c3, hv3⟩ := Kd.R_slice HR3.out
      subst hv3
      go_simp
      try rfl
    refine hK.out _ _ (HV3.out.alloc _).cell (fun hHeld => ?_)
    clear hK K
    refine norm_ (a' := ?_) ?_ ?_
    rotate_left
    · show Act.put _ (some 27) _ = _
      simp only [Act.put, List.setIfInBounds_toArray, List.set_cons_zero, List.set_cons_succ, i64_w, i32_w]
      rfl
    refine one_ (i := 5) (N := some 28) rows_r10.l5 rfl rfl (one_of HT_.out (by kernel_rfl)) (by decide) (fun K hK => ?_)
    refine Kd.S_append_step KRow (w0 := w3) W0.heap.size (by rfl) (.tmp 23) (.tmp 27) 51 50 (.slice none 0 0) 24 rfl Tryz.underlying51 info50 rfl (by decide) (by decide) v (pre.map (fun x => x.2.2)) xl [v3] (fun _ => True) (fun k => W2.drew.heap.size ≤ k) rfl rfl ⟨v3, rfl, Kd.R_lower HR3.out HW02.out⟩ (fun k hk => ⟨trivial, fun e => by have := HVB.out k e.symm; omega⟩) (fun _ _ => trivial) (Kd.S_mono (Kd.S_below HS2.out HB3.out) (fun k hk => ⟨trivial, Nat.not_le.2 hk⟩)) (Below.refl _ _) (Nat.le_trans HW02.out HB3.out.size) (by have := HPL.out; rw [List.length_map]; omega) ?_
    intro v4 w4 hS_ hb_ hg_ _
    have HS4 := Aside0.mk hS_
    have HG4 : Aside0 (w3.grownBy w4 v.ownBlock) := ⟨hg_⟩
    have HV4 := Aside0.mk (HV3.out.kept HG4.out HNO.out)
    clear hS_ hb_ hg_
    refine hK.out _ _ HV4.out.cell (fun hHeld => ?_)
    clear hK K
    refine norm_ (a' := ?_) ?_ ?_
    rotate_left
    · show Act.put _ (some 28) _ = _
      simp only [Act.put, List.setIfInBounds_toArray, List.set_cons_zero, List.set_cons_succ, i64_w, i32_w]
      rfl
    refine last_ (i := 6) (N := none) rows_r10.l6 rfl rfl (one_of HT_.out (by kernel_rfl)) (by decide) (fun K hK => ?_)
    refine skip_ (w1 := w4.setCell ⟨w.heap.size + 1 + 1 + 1 + 1, 0, none⟩ v4) (by rfl) rfl ?_ ?_
    · obtain ⟨X4, c4, hv4⟩ := Kd.S_slice HS4.out
      subst hv4
      have s0 := HV4.out.cell
      have f0 := HV4.out.frozen
      go_simp
    refine hK.out _ _ ?_
    clear hK K
    refine done_ (done_of HT_.out (by kernel_rfl)) ?_
    clear HT_ HW_
    have hw34 := HB3.out.size
    have hg : W2.grownBy w4 v.ownBlock := (grownBy_any (below_grown (Below.drew (Below.refl _ _))) _).trans ((grownBy_any (below_grown HB3.out) _).trans HG4.out)
    have hko : KeepsOthers W2 (w4.setCell ⟨w.heap.size + 1 + 1 + 1 + 1, 0, none⟩ v4) :=
      ((KeepsOthers.of_grownBy (below_grown (Below.drew (Below.refl W2.heap.size W2))) (fun j o e => by cases e)).trans ((KeepsOthers.of_grownBy (below_grown HB3.out) (fun j o e => by cases e)).trans (KeepsOthers.of_grownBy HG4.out (fun j o e ho => HSR.out w3 HB3.out j o e ho)))).trans (KeepsOthers.setCell _ _ _)
    have hkb : KeepsS (fun k => k < w.heap.size + 1 + 1 + 1 + 1) W2 (w4.setCell ⟨w.heap.size + 1 + 1 + 1 + 1, 0, none⟩ v4) := by
      have hk1 : KeepsS (fun k => k < w.heap.size + 1 + 1 + 1 + 1) W2 w4 := ⟨hg.size, fun k hk => hg.block k (by have := HKP.out.1; have := HSZ.out; omega) (fun e => by have := HVG.out k e.symm; have := HSZ.out; omega)⟩
      exact hk1.setCell (by simp) _
    refine ⟨hko.from _, hkb, ⟨v4, HV4.out.set v4, ?_⟩, keepsS_t HKP.out hkb, ?_⟩
    · rw [List.map_append]
      exact Kd.S_set HS4.out HV4.out (by decide) 0 v4
    · refine (HB2.out.grown hg (by have := HB2.out.size; omega) (fun k e => by have := HVG.out k e; have := HSZ.out; omega)).setCell (p := ⟨w.heap.size + 1 + 1 + 1 + 1, 0, none⟩) (by show w.heap.size ≤ w.heap.size + 1 + 1 + 1 + 1; omega) _
  case done =>
    rintro D ys W hD hys ⟨⟨v, hv, hS⟩, hkp, hB⟩ hK
    have hl : ys.map (fun x => x.2.2) = rowsL b := by
      have h1 : (ys.map bare).map (·.2) = rowsL b := by rw [hys, placed_snds]
      rw [← h1, List.map_map]; rfl
    rw [hl] at hS
    have hln : ys.length = (rowsL b).length := by rw [← hl, List.length_map]
    obtain ⟨A, c, he⟩ := Kd.S_slice hS
    subst he
    have h1 := Boxed.keeps bR hkp (by omega)
    have h2 := Boxed.keeps bK hkp (by omega)
    have hc := hv.cell
    have hc1 := h1.cell
    have hf1 := h1.frozen
    have hc2 := h2.cell
    have hf2 := h2.frozen
    gi_wp2
    have hK1 := (KeepsOthers.setCell W ⟨w.heap.size, 0, none⟩ (.slice A (rowsL b).length c)).same D _ hK rfl
    have hK2 := (KeepsOthers.setCell (W.setCell ⟨w.heap.size, 0, none⟩ (.slice A (rowsL b).length c)) ⟨w.heap.size + 1, 0, none⟩ (.bool true)).same D _ hK1 rfl
    refine ⟨by simp, .inl ⟨_, _, rfl, run_takeDeferred hK2, ?_⟩⟩
    have e1 := h1.set (.slice A (rowsL b).length c)
    have e2' := h2.kept (grownBy_setCell' W w.heap.size (.slice A (rowsL b).length c)) (by simp)
    have e2 := e2'.set (.bool true)
    have c1' := (boxed_putObj (e1.kept (grownBy_setCell' _ (w.heap.size + 1) (.bool true)) (by simp)) (.deferred none) hK2 rfl).cell
    have c2' := (boxed_putObj e2 (.deferred none) hK2 rfl).cell
    have hS1 := Kd.S_set hS h1 (by decide) 0 (.slice A (rowsL b).length c)
    have hS2 := Kd.S_set hS1 e2' (by decide) 0 (.bool true)
    have hS3 := Kd.S_lower (S_putObj hS2 (.deferred none) hK2 rfl) hB0.size
    refine ⟨_, ?_, _, rfl, hS3, ?_⟩
    · simp [results, Tryz.f18, go_sem, c1', c2']
    · exact ((hB.setCell (p := ⟨w.heap.size, 0, none⟩) (Nat.le_refl _) _).setCell (p := ⟨w.heap.size + 1, 0, none⟩) (Nat.le_succ _) _).trans (belowK_b (w := w) (Nat.le_refl _) _ D _ _ (by omega) hK2 rfl rfl)
  case stop =>
    rintro D c pre W _ _ h0 _
    exact h0.elim

end Go.Proofs.YtockdfnnhkhlkaaGreatDoor.G
