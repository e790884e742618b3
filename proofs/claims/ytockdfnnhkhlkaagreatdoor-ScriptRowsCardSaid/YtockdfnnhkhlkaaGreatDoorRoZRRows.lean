/- althinglaw15.rows: all rows, one behind the other, each in memory of its own (laid by mkzrows15.py). -/
import Derived.Test.YtockdfnnhkhlkaaGreatDoorRoHStep
import Derived.Test.YtockdfnnhkhlkaaGreatDoorRoZKnown15
import Derived.Maps.OwnIn
import Derived.Test.YtockdfnnhkhlkaaGreatDoorRoHLies
import Derived.Test.YtockdfnnhkhlkaaGreatDoorRoZRows
import Derived.Test.YtockdfnnhkhlkaaGreatDoorRoGx5
namespace Go.Proofs.YtockdfnnhkhlkaaGreatDoor.G
open Go.RowKit Go.Shelf Go.Proofs.YtockdfnnhkhlkaaGreatDoorW Go.Proofs.YtockdfnnhkhlkaaGreatDoorW.PrintWords Go.Proofs.YtockdfnnhkhlkaaGreatDoorW.PrintLast Go.Proofs.YtockdfnnhkhlkaaGreatDoorW.PrintMore Go.Proofs.YtockdfnnhkhlkaaGreatDoor.PNum
set_option linter.unusedVariables false
set_option linter.unusedSimpArgs false
attribute [local go_sem] Oper.semAt_some
def rows_r10.T : Bool × List (List Nat × List Nat) := (true, [([], []), ([], []), ([], []), ([1, 2], [1, 2]), ([3], [3]), ([0, 4, 3], [0, 4]), ([5, 5, 0, 1, 2, 3, 4, 5], [5])])
def rows_r10.B : List Nat := [0, 0, 0, 6, 14, 31, 63]
theorem rows_r10.tab : rtab .any (opsOf Tryz.f18 10) = rows_r10.T := by kernel_rfl
theorem rows_r10.bits : waitsOk rows_r10.T.2 rows_r10.B = true := by kernel_rfl
def rows_r10.l0 : Array Bool := bl 7 1
def rows_r10.l1 : Array Bool := bl 7 5
def rows_r10.l2 : Array Bool := bl 7 7
def rows_r10.l3 : Array Bool := bl 7 15
def rows_r10.l4 : Array Bool := bl 7 31
def rows_r10.l5 : Array Bool := bl 7 63
def rows_r10.l6 : Array Bool := bl 7 127

abbrev KRow : Kd (List Int) := Kd.slice 5 (Kd.int .u8)
theorem not_cells_row {W : World} {row : Option Nat} {k : Nat} {cs : Array Value} {q : TypeId} (hk : W.heap[k]? = some (.cells cs q (0, 0))) (hr : ∀ r, row = some r → ∃ o : Obj, W.heap[r]? = some o ∧ o.isCells = false) : some k ≠ row := fun e' => by
  obtain ⟨o, ho, hc⟩ := hr k e'.symm
  rw [hk] at ho; cases ho; cases hc
theorem S_own_row {α : Type} {d : Kd α} {e base : Nat} {W W1 : World} {v : Value} {xs : List α} (h : Kd.S d e W base (fun _ => True) v xs) {row : Option Nat} (hg : W.grownBy W1 row) (hr : ∀ r, row = some r → ∃ o : Obj, W.heap[r]? = some o ∧ o.isCells = false) : Kd.S d e W1 base (fun _ => True) v xs :=
  Kd.S_mono (Kd.S_grown (Kd.S_bound h) hg (fun k hk => by obtain ⟨_, _, _, q, _, cells, hc⟩ := hk; exact not_cells_row hc hr)) (fun _ _ => trivial)
theorem rows_short (b : List Int) : ∀ x ∈ rowsL b, x.length ≤ b.length := by
  have : ∀ n (b : List Int), b.length ≤ n → ∀ x ∈ rowsL b, x.length ≤ b.length := by
    intro n
    induction n with
    | zero =>
      intro b hb x hx
      have : b = [] := List.length_eq_zero_iff.1 (Nat.le_zero.1 hb)
      subst this
      rw [rowsL_none rfl] at hx
      cases hx
    | succ n ih =>
      intro b hb x hx
      cases hT : cutN b with
      | none => rw [rowsL_none hT] at hx; cases hx
      | some y =>
        obtain ⟨p, s⟩ := y
        have hs := cutN_size hT
        rw [rowsL_some hT] at hx
        rcases List.mem_cons.1 hx with rfl | hx
        · omega
        · have := ih (b.drop s) (by rw [List.length_drop]; omega) x hx
          rw [List.length_drop] at this
          omega
  exact this b.length b (Nat.le_refl _)
theorem shut_from {D n₀ B : Nat} (t : TypeId) : OwnFrom D (fun (pre : List RowAt) W => ∃ v, Boxed W B t v ∧ Kd.S KRow 50 W n₀ (fun _ => True) v (pre.map (fun x => x.2.2))) := by
  rintro s X Y row ⟨v, hv, hS⟩ hg hr
  exact ⟨v, box_from t (fun _ : Unit => v) () X Y row hv hg hr, S_own_row hS hg (fun r e => (hr r e).2)⟩
theorem S_putObj {α : Type} {d : Kd α} {e base : Nat} {W : World} {v : Value} {xs : List α} (h : Kd.S d e W base (fun _ => True) v xs) {l : Nat} {o : Obj} (o' : Obj) (hl : W.heap[l]? = some o) (ho : o.isCells = false) : Kd.S d e (W.putObj l o') base (fun _ => True) v xs :=
  S_own_row h (grownBy_putObj' W l o') (fun r e => by cases e; exact ⟨o, hl, ho⟩)

theorem S_row {α : Type} {d : Kd α} {e base : Nat} {okv : Nat → Prop} {W : World} {v : Value} {xs : List α} (h : Kd.S d e W base okv v xs) : ∀ k o, v.ownBlock = some k → W.heap[k]? = some o → o.isCells = true := by
  obtain ⟨f, h⟩ := h
  exact R_row h
theorem R_ge {α : Type} {d : Kd α} {e base : Nat} {okv : Nat → Prop} {W : World} {v : Value} {xs : List α} (h : d.R e W base okv v xs) : ∀ k, v.ownBlock = some k → base ≤ k := by
  intro k hk
  obtain ⟨_, inner, hown, _⟩ := h
  rcases hown.2 with ⟨e1, _⟩ | ⟨g, cap, cur, e1, hb, _⟩
  · rw [e1] at hk; simp [Value.ownBlock] at hk
  · rw [e1] at hk
    have : g = k := by simpa [Value.ownBlock] using hk
    omega
theorem Kd.S_ge {α : Type} {d : Kd α} {e base : Nat} {okv : Nat → Prop} {W : World} {v : Value} {xs : List α} (h : Kd.S d e W base okv v xs) : ∀ k, v.ownBlock = some k → base ≤ k := by
  obtain ⟨f, h⟩ := h
  exact R_ge h
set_option maxRecDepth 100000 in
set_option maxHeartbeats 8000000 in
theorem althinglaw15_rows.calls_ (A0 : Option Addr) (c0 : Nat) (b : List Int) (w : World) (hr0 : Kd.C (Kd.int .u8) w A0 b.length b) (hc0 : b.length ≤ c0) (hb : IsBytes b) (hbl : b.length ≤ 70000000000000) (hlen : (rowsL b).length ≤ 10001) :
    Calls Tryz.prog 18 #[.slice A0 b.length c0] w fun e w' => ∃ v0_ : Value, e = .returned (.tuple #[v0_, .bool true]) ∧ Kd.S KRow 50 w' w.heap.size (fun _ => True) v0_ (rowsL b) ∧ Below w.heap.size w w' := by
  obtain ⟨i0, hi, hz0, hz1, hz2⟩ := info_parts info50
  refine (callsIn_wide (n := 6)).1 ?_
  have hlt : ∀ ad, A0 = some ad → 0 < b.length → ad.block < w.heap.size := fun ad e hn => by subst e; exact Kd.C_lt hr0 hn (by decide)
  refine callsIn_of_wp_marks Tryz.func18 rfl trivial ?_ rfl
  simp only [Tryz.ntmps18, List.size_toArray, List.length_cons, List.length_nil, Nat.reduceAdd, Nat.reduceSub, Array.replicate_succ, Array.replicate_zero, List.push_toArray, List.append_toArray, List.nil_append, List.cons_append]
  have hq : ∀ (W : World) (f : Fn) (ts bs : Array Value), (binOp .eql 56 (.func f ts bs) .nilFunc).run Tryz.prog W = .ok (.bool false) W := fun W f ts bs => run_eql_func W _ Tryz.underlying56 f ts bs
  gi_wp2_with (refine ⟨trivial, ?_⟩; gi_at_call 21; refine (srows_in _ (by decide) _ _ _ _).mono ?_; rintro e w' ⟨rfl, rfl⟩)
  obtain ⟨W0, hW0⟩ : ∃ W0, W0 = (((((w.alloc (.cells #[.slice none 0 0] 51)).alloc (.cells #[.bool false] 4)).alloc (.cells #[.slice A0 b.length c0] 50)).alloc (.cells #[.func (.func 89) #[] #[]] 163)).alloc (.cells #[.slice none 0 0] 51)) := ⟨_, rfl⟩
  rw [← hW0]
  have hsz : W0.heap.size = w.heap.size + 1 + 1 + 1 + 1 + 1 := by rw [hW0]; simp
  have bR : Boxed W0 (w.heap.size) 51 (.slice none 0 0) := by rw [hW0]; exact (((((Boxed.at (by simp) _ _).alloc _).alloc _).alloc _).alloc _)
  have bK : Boxed W0 (w.heap.size + 1) 4 (.bool false) := by rw [hW0]; exact ((((Boxed.at (by simp) _ _).alloc _).alloc _).alloc _)
  have bB : Boxed W0 (w.heap.size + 1 + 1) 50 (.slice A0 b.length c0) := by rw [hW0]; exact (((Boxed.at (by simp) _ _).alloc _).alloc _)
  have bN : Boxed W0 (w.heap.size + 1 + 1 + 1) 163 (.func (.func 89) #[] #[]) := by rw [hW0]; exact ((Boxed.at (by simp) _ _).alloc _)
  have bO : Boxed W0 (w.heap.size + 1 + 1 + 1 + 1) 51 (.slice none 0 0) := by rw [hW0]; exact (Boxed.at (by simp) _ _)
  have hB0 : Below w.heap.size w W0 := by
    rw [hW0]
    exact (((((Below.refl _ w).alloc (Nat.le_refl _) _).alloc (by simp) _).alloc (by simp; omega) _).alloc (by simp; omega) _).alloc (by simp; omega) _
  clear hW0
  refine wpIn_rangeFunc_T rfl (by decide) (gf := 150) (lb := #[.pointer (some ⟨w.heap.size + 1 + 1, 0, none⟩), .pointer (some ⟨w.heap.size + 1 + 1 + 1, 0, none⟩)]) rfl trivial (enters_of Tryz.func150 (by kernel_rfl) rfl)
    (rows_stops _ (by decide) (w.heap.size + 1 + 1) (w.heap.size + 1 + 1 + 1) A0 c0 b hb (by omega) hc0 (fun k => k < w.heap.size + 1 + 1 + 1 + 1) (by omega) (by omega) (fun ad e hn => Nat.lt_of_lt_of_le (hlt ad e hn) (by omega)) W0 (by intro k hk; omega) bB.cell bN.cell (Kd.C_below hr0 hB0)) (rowT_from _ _) keepsS_t (keepsS_b (by intro k hk; omega)) (Below.refl _ _) (fun _ => rfl)
    (fun (pre : List RowAt) W => (∃ v, Boxed W (w.heap.size + 1 + 1 + 1 + 1) 51 v ∧ Kd.S KRow 50 W W0.heap.size (fun _ => True) v (pre.map (fun x => x.2.2))) ∧ KeepsS (fun k => k < w.heap.size + 1 + 1 + 1 + 1) W0 W ∧ Below w.heap.size w W)
    (fun c (pre : List RowAt) W => False)
    (OwnFrom.and (shut_from _) (OwnFrom.and (keeps_from (fun k q => by omega) (fun k q => by omega)) (ownFrom_below (Nat.le_refl _) (by omega))))
    (fun c => fun _ _ _ _ hs _ _ => hs)
    ⟨⟨_, bO, Kd.S_nil _ _ _ _ _⟩, KeepsS.refl _ _, hB0⟩ ?a1 ?assign ?body ?done ?stop
  case assign =>
    intro l x W K hK
    gi_wp2
    exact hK
  case body =>
    rintro l pre ⟨x1, xv, xl⟩ W1 W2 ⟨⟨v, hv1, hS1⟩, hkp1, hB1⟩ hb12 ⟨hx1, hx2, hxv⟩ hlt'
    have hx1' : x1 = (pre.length : Int) := hx1
    subst hx1'
    have hv : Boxed W2 (w.heap.size + 1 + 1 + 1 + 1) 51 v := (hb12.block _ hv1.lt).trans hv1
    have hkp2 : KeepsS (fun k => k < w.heap.size + 1 + 1 + 1 + 1) W0 W2 := keepsS_t hkp1 (KeepsS.of_below hb12 (fun k q => by have := hkp1.1; omega))
    have hB2 : Below w.heap.size w W2 := hB1.trans (hb12.mono hB1.size)
    have hS2 : Kd.S KRow 50 W2 W0.heap.size (fun k => k < W1.heap.size) v (pre.map (fun x => x.2.2)) := Kd.S_mono (Kd.S_below (Kd.S_bound hS1) hb12) (fun k hk => hk.2.2.1)
    have hlts : ∀ k, v.ownBlock = some k → k < W1.heap.size := Kd.S_lt hS1
    have hsz2 := hB2.size
    have hsz3 := hkp2.1
    have hxs : xl.length ≤ 70000000000000 := by
      have h1 := rows_short b _ (List.mem_of_getElem? hx2)
      have h2 : xl.length ≤ b.length := h1
      omega
    obtain ⟨Ax, cx, hxe⟩ := Kd.R_slice hxv
    have hxe' : xv = .slice Ax xl.length cx := hxe
    subst hxe'
    clear hxe
    have hxb : KRow.M W2 W0.heap.size (fun k => W1.heap.size ≤ k) xl [.slice Ax xl.length cx] := ⟨_, rfl, Kd.R_lower (Kd.R_mono (Kd.R_bound hxv) (fun k hk => hk.2.1)) hkp1.1⟩
    have hln : ∀ W' : World, Sem.run Tryz.prog (Builtin.len_ #[51] 3 #[v]) W' = .ok (.int .i64 pre.length) W' := by
      intro W'
      obtain ⟨A, c, he⟩ := Kd.S_slice hS2
      rw [he]
      simp [Builtin.len_, go_sem, Tryz.underlying51, goInt]
    have ht : decide ((10000 : Int) < (pre.length : Int)) = false := decide_eq_false (by omega)
    have hc := hv.cell
    have HV2 : Aside0 (Boxed W2.drew (w.heap.size + 1 + 1 + 1 + 1) 51 v) := ⟨hv.kept (below_grown (Below.drew (Below.refl _ _))) (by simp)⟩
    have HS10 := HV2.out.cell
    have HS2 : Aside0 (Kd.S KRow 50 W2.drew W0.heap.size (fun k => k < W2.drew.heap.size) v (pre.map (fun x => x.2.2))) := ⟨Kd.S_mono (Kd.S_below hS2 (Below.drew (Below.refl _ _))) (fun k hk => Nat.lt_of_lt_of_le hk hb12.size)⟩
    have HX2 : Aside0 (Kd.C (Kd.int .u8) W2.drew Ax xl.length xl) := ⟨Kd.C_below (Kd.R_reads' hxv).2.2 (Below.drew (Below.refl _ _))⟩
    have HXL : Aside0 (xl.length ≤ 70000000000000) := ⟨hxs⟩
    have HPL : Aside0 (pre.length ≤ 10001) := ⟨by omega⟩
    have HE2 : Aside0 ((Kd.int .u8).R 5 (W2.drew.alloc (.cells #[] 5)) W2.drew.heap.size (fun k => W2.drew.heap.size ≤ k) (.slice (some ⟨W2.drew.heap.size, 0, none⟩) 0 0) []) := ⟨by
      have h := own_lit_of (enc := Value.int .u8) W2.drew W2.drew.heap.size 5 [] (Nat.le_refl _) (by decide)
      exact Kd.R_of_own h (fun k hk => by have : W2.drew.heap.size = k := by simpa [Value.ownBlock] using hk
                                          omega)⟩
    have HW02 : Aside0 (W0.heap.size ≤ W2.drew.heap.size) := ⟨hkp2.1⟩
    have HVB : Aside0 (∀ k, v.ownBlock = some k → k < W2.drew.heap.size) := ⟨fun k hk => Nat.lt_of_lt_of_le (hlts k hk) hb12.size⟩
    have hvb : ∀ k, v.ownBlock = some k → W0.heap.size ≤ k := Kd.S_ge hS2
    have HNO : Aside0 (some (w.heap.size + 1 + 1 + 1 + 1) ≠ v.ownBlock) := ⟨fun e => by have := hvb _ e.symm; omega⟩
    have HSR : Aside0 (∀ (W' : World), Below W2.drew.heap.size W2.drew W' → ∀ k o, v.ownBlock = some k → W'.heap[k]? = some o → o.isCells = true) := ⟨fun W' hb => S_row (Kd.S_below HS2.out hb)⟩
    have HKP := Aside0.mk hkp2
    have HB2 := Aside0.mk hB2
    have HVG := Aside0.mk hvb
    have HSZ := Aside0.mk hsz
    clear hv1 hS1 hkp1 hB1 hS2 hxv hv hkp2 hB2 hvb hlts hsz2 hsz3 hb12 hxs
    gi_wp2
    refine startR_ (m := 7) (S := fun w' => w'.cell? ⟨w.heap.size + 1 + 1 + 1 + 1, 0, none⟩ = some v) (ds := [6]) #[false, false, false, false, false, false, false] (by intro o ho c; simp only [List.mem_toArray, List.mem_cons, List.not_mem_nil, or_false] at ho; (repeat' (rcases ho with rfl | ho)) <;> first | (intro e; cases e; done) | (subst ho; intro e; cases e)) (by rintro ⟨_, _, h_⟩; exact h_) (by kernel_rfl) rfl rfl HS10 (fun hHeld => ?_)
    refine with_tabW rows_r10.tab rows_r10.bits (fun HT_ HW_ => ?_)
    refine tk HT_ HW_ hHeld 0 (some 23) rows_r10.l0 (hr := by intro w' hs_; have s0 := hs_; go_simp; with_reducible rfl) (h := ?_)
    refine pu HT_ 2 (some 25) rows_r10.l1 (h := ?_)
    refine one_ (i := 1) (N := some 24) rows_r10.l2 rfl rfl (one_of HT_.out (by kernel_rfl)) (by decide) (fun K hK => ?_)
    refine value_ (v := .slice (some ⟨W2.drew.heap.size, 0, none⟩) 0 0) (w1 := W2.drew.alloc (.cells #[] 5)) (by rfl) rfl ?_ ?_
    · go_simp
      try rfl
    refine hK.out _ _ (HV2.out.alloc _).cell (fun hHeld => ?_)
    clear hK K
    refine norm_ (a' := ?_) ?_ ?_
    rotate_left
    · show Act.put _ (some 24) _ = _
      simp only [Act.put, List.setIfInBounds_toArray, List.set_cons_zero, List.set_cons_succ, i64_w, i32_w]
      rfl
    refine one_ (i := 3) (N := some 26) rows_r10.l3 rfl rfl (one_of HT_.out (by kernel_rfl)) (by decide) (fun K hK => ?_)
    refine Kd.R_append_rows_step (Kd.int .u8) (w0 := W2.drew) W2.drew.heap.size (by rfl) (.tmp 24) (.tmp 25) 50 5 (.int .u8 0) 1 rfl Tryz.underlying50 info5 rfl (by decide) (by decide) (.slice (some ⟨W2.drew.heap.size, 0, none⟩) 0 0) [] xl Ax xl.length cx (fun k => W2.drew.heap.size ≤ k) (fun _ => False) rfl rfl HE2.out (Kd.C_alloc HX2.out _) (fun _ _ h => h) (fun _ h => h.elim) (fun k hk => Nat.le_trans (Nat.le_of_lt (by simp)) hk) (below_alloc (Below.refl _ _) _) (by simp) (by have := HXL.out; simp only [List.length_nil, Nat.zero_add, Nat.mul_one]; omega) ?_
    intro v3 w3 hR_ hb_ hg_ _
    rw [List.nil_append] at hR_
    have HR3 := Aside0.mk hR_
    have HB3 := Aside0.mk hb_
    have HV3 := Aside0.mk (HV2.out.kept (below_grown HB3.out) (by simp))
    clear hR_ hb_ hg_
    refine hK.out _ _ HV3.out.cell (fun hHeld => ?_)
    clear hK K
    refine norm_ (a' := ?_) ?_ ?_
    rotate_left
    · show Act.put _ (some 26) _ = _
      simp only [Act.put, List.setIfInBounds_toArray, List.set_cons_zero, List.set_cons_succ, i64_w, i32_w]
      rfl
    refine one_ (i := 4) (N := some 27) rows_r10.l4 rfl rfl (one_of HT_.out (by kernel_rfl)) (by decide) (fun K hK => ?_)
    refine value_ (v := .slice (some ⟨w3.heap.size, 0, none⟩) 1 1) (w1 := w3.alloc (.cells [v3].toArray 50)) (by rfl) rfl ?_ ?_
    · obtain ⟨X3, c3, hv3⟩ := Kd.R_slice HR3.out
      subst hv3
      go_simp
      try rfl
    refine hK.out _ _ (HV3.out.alloc _).cell (fun hHeld => ?_)
    clear hK K
    refine norm_ (a' := ?_) ?_ ?_
    rotate_left
    · show Act.put _ (some 27) _ = _
      simp only [Act.put, List.setIfInBounds_toArray, List.set_cons_zero, List.set_cons_succ, i64_w, i32_w]
      rfl
    refine one_ (i := 5) (N := some 28) rows_r10.l5 rfl rfl (one_of HT_.out (by kernel_rfl)) (by decide) (fun K hK => ?_)
    refine Kd.S_append_step KRow (w0 := w3) W0.heap.size (by rfl) (.tmp 23) (.tmp 27) 51 50 (.slice none 0 0) 24 rfl Tryz.underlying51 info50 rfl (by decide) (by decide) v (pre.map (fun x => x.2.2)) xl [v3] (fun _ => True) (fun k => W2.drew.heap.size ≤ k) rfl rfl ⟨v3, rfl, Kd.R_lower HR3.out HW02.out⟩ (fun k hk => ⟨trivial, fun e => by have := HVB.out k e.symm; omega⟩) (fun _ _ => trivial) (Kd.S_mono (Kd.S_below HS2.out HB3.out) (fun k hk => ⟨trivial, Nat.not_le.2 hk⟩)) (Below.refl _ _) (Nat.le_trans HW02.out HB3.out.size) (by have := HPL.out; rw [List.length_map]; omega) ?_
    intro v4 w4 hS_ hb_ hg_ _
    have HS4 := Aside0.mk hS_
    have HG4 : Aside0 (w3.grownBy w4 v.ownBlock) := ⟨hg_⟩
    have HV4 := Aside0.mk (HV3.out.kept HG4.out HNO.out)
    clear hS_ hb_ hg_
    refine hK.out _ _ HV4.out.cell (fun hHeld => ?_)
    clear hK K
    refine norm_ (a' := ?_) ?_ ?_
    rotate_left
    · show Act.put _ (some 28) _ = _
      simp only [Act.put, List.setIfInBounds_toArray, List.set_cons_zero, List.set_cons_succ, i64_w, i32_w]
      rfl
    refine last_ (i := 6) (N := none) rows_r10.l6 rfl rfl (one_of HT_.out (by kernel_rfl)) (by decide) (fun K hK => ?_)
    refine skip_ (w1 := w4.setCell ⟨w.heap.size + 1 + 1 + 1 + 1, 0, none⟩ v4) (by rfl) rfl ?_ ?_
    · obtain ⟨X4, c4, hv4⟩ := Kd.S_slice HS4.out
      subst hv4
      have s0 := HV4.out.cell
      have f0 := HV4.out.frozen
      go_simp
    refine hK.out _ _ ?_
    clear hK K
    refine done_ (done_of HT_.out (by kernel_rfl)) ?_
    clear HT_ HW_
    have hw34 := HB3.out.size
    have hg : W2.grownBy w4 v.ownBlock := (grownBy_any (below_grown (Below.drew (Below.refl _ _))) _).trans ((grownBy_any (below_grown HB3.out) _).trans HG4.out)
    have hko : KeepsOthers W2 (w4.setCell ⟨w.heap.size + 1 + 1 + 1 + 1, 0, none⟩ v4) :=
      ((KeepsOthers.of_grownBy (below_grown (Below.drew (Below.refl W2.heap.size W2))) (fun j o e => by cases e)).trans ((KeepsOthers.of_grownBy (below_grown HB3.out) (fun j o e => by cases e)).trans (KeepsOthers.of_grownBy HG4.out (fun j o e ho => HSR.out w3 HB3.out j o e ho)))).trans (KeepsOthers.setCell _ _ _)
    have hkb : KeepsS (fun k => k < w.heap.size + 1 + 1 + 1 + 1) W2 (w4.setCell ⟨w.heap.size + 1 + 1 + 1 + 1, 0, none⟩ v4) := by
      have hk1 : KeepsS (fun k => k < w.heap.size + 1 + 1 + 1 + 1) W2 w4 := ⟨hg.size, fun k hk => hg.block k (by have := HKP.out.1; have := HSZ.out; omega) (fun e => by have := HVG.out k e.symm; have := HSZ.out; omega)⟩
      exact hk1.setCell (by simp) _
    refine ⟨hko.from _, hkb, ⟨v4, HV4.out.set v4, ?_⟩, keepsS_t HKP.out hkb, ?_⟩
    · rw [List.map_append]
      exact Kd.S_set HS4.out HV4.out (by decide) 0 v4
    · refine (HB2.out.grown hg (by have := HB2.out.size; omega) (fun k e => by have := HVG.out k e; have := HSZ.out; omega)).setCell (p := ⟨w.heap.size + 1 + 1 + 1 + 1, 0, none⟩) (by show w.heap.size ≤ w.heap.size + 1 + 1 + 1 + 1; omega) _
  case done =>
    rintro D ys W hD hys ⟨⟨v, hv, hS⟩, hkp, hB⟩ hK
    have hl : ys.map (fun x => x.2.2) = rowsL b := by
      have h1 : (ys.map bare).map (·.2) = rowsL b := by rw [hys, placed_snds]
      rw [← h1, List.map_map]; rfl
    rw [hl] at hS
    have hln : ys.length = (rowsL b).length := by rw [← hl, List.length_map]
    obtain ⟨A, c, he⟩ := Kd.S_slice hS
    subst he
    have h1 := Boxed.keeps bR hkp (by omega)
    have h2 := Boxed.keeps bK hkp (by omega)
    have hc := hv.cell
    have hc1 := h1.cell
    have hf1 := h1.frozen
    have hc2 := h2.cell
    have hf2 := h2.frozen
    gi_wp2
    have hK1 := (KeepsOthers.setCell W ⟨w.heap.size, 0, none⟩ (.slice A (rowsL b).length c)).same D _ hK rfl
    have hK2 := (KeepsOthers.setCell (W.setCell ⟨w.heap.size, 0, none⟩ (.slice A (rowsL b).length c)) ⟨w.heap.size + 1, 0, none⟩ (.bool true)).same D _ hK1 rfl
    refine ⟨by simp, .inl ⟨_, _, rfl, run_takeDeferred hK2, ?_⟩⟩
    have e1 := h1.set (.slice A (rowsL b).length c)
    have e2' := h2.kept (grownBy_setCell' W w.heap.size (.slice A (rowsL b).length c)) (by simp)
    have e2 := e2'.set (.bool true)
    have c1' := (boxed_putObj (e1.kept (grownBy_setCell' _ (w.heap.size + 1) (.bool true)) (by simp)) (.deferred none) hK2 rfl).cell
    have c2' := (boxed_putObj e2 (.deferred none) hK2 rfl).cell
    have hS1 := Kd.S_set hS h1 (by decide) 0 (.slice A (rowsL b).length c)
    have hS2 := Kd.S_set hS1 e2' (by decide) 0 (.bool true)
    have hS3 := Kd.S_lower (S_putObj hS2 (.deferred none) hK2 rfl) hB0.size
    refine ⟨_, ?_, _, rfl, hS3, ?_⟩
    · simp [results, Tryz.f18, go_sem, c1', c2']
    · exact ((hB.setCell (p := ⟨w.heap.size, 0, none⟩) (Nat.le_refl _) _).setCell (p := ⟨w.heap.size + 1, 0, none⟩) (Nat.le_succ _) _).trans (belowK_b (w := w) (Nat.le_refl _) _ D _ _ (by omega) hK2 rfl rfl)
  case stop =>
    rintro D c pre W _ _ h0 _
    exact h0.elim

end Go.Proofs.YtockdfnnhkhlkaaGreatDoor.G

/- The reference's reader: a row (laid by mkzrrow.py). -/
namespace Go.Proofs.YtockdfnnhkhlkaaGreatDoor.G
open Go.RowKit Go.Shelf Go.Proofs.YtockdfnnhkhlkaaGreatDoorW.PrintWords Go.Proofs.YtockdfnnhkhlkaaGreatDoorW.PrintLast Go.Proofs.YtockdfnnhkhlkaaGreatDoorW.PrintMore Go.Proofs.YtockdfnnhkhlkaaGreatDoor.PNum
set_option linter.unusedVariables false
set_option linter.unusedSimpArgs false
/-- A row that is read stands where its block does. -/
theorem C_stays {k : IntKind} {W W' : World} {A : Option Addr} {n : Nat} {xs : List Int} (h : Kd.C (Kd.int k) W A n xs) (hb : ∀ ad, A = some ad → 0 < n → W'.heap[ad.block]? = W.heap[ad.block]?) : Kd.C (Kd.int k) W' A n xs := by
  refine ⟨h.1, h.2.1, fun h0 => ?_⟩
  obtain ⟨ad, e, hc⟩ := h.2.2 h0
  refine ⟨ad, e, fun j p hj => ?_⟩
  obtain ⟨c, hl, hr, hcell⟩ := hc j p hj
  refine ⟨c, hl, hr, fun i u hu => ?_⟩
  have hq := World.cell?_of_block (w := W) (w' := W') (a := ad.add (j * (Kd.int k).sz + i)) (by rw [addr_block]; exact hb ad e h0)
  rw [hq]; exact hcell i u hu

/-! ### worlds that are kept but for some blocks -/
structure Kept (bad : Nat → Prop) (w w' : World) : Prop where
  os : w'.os = w.os
  tape : w'.tape = w.tape
  output : w'.output = w.output
  size : w.heap.size ≤ w'.heap.size
  block : ∀ k, k < w.heap.size → ¬ bad k → w'.heap[k]? = w.heap[k]?
theorem Kept.refl (bad : Nat → Prop) (w : World) : Kept bad w w := ⟨rfl, rfl, rfl, Nat.le_refl _, fun _ _ _ => rfl⟩
theorem Kept.below {bad : Nat → Prop} {w w' w'' : World} (h : Kept bad w w') (k : Below w'.heap.size w' w'') : Kept bad w w'' :=
  ⟨k.os.trans h.os, k.tape.trans h.tape, k.output.trans h.output, Nat.le_trans h.size k.size, fun b hb hne => (k.block b (Nat.lt_of_lt_of_le hb h.size)).trans (h.block b hb hne)⟩
theorem Kept.set {bad : Nat → Prop} {w w' : World} (h : Kept bad w w') {g : Nat} (hg : bad g) (i : Nat) (v : Value) : Kept bad w (w'.setCell ⟨g, i, none⟩ v) :=
  ⟨h.os, h.tape, h.output, by rw [World.size_setCell]; exact h.size, fun k hk hne => (Below.heap_setCell w' ⟨g, i, none⟩ v k (fun e => hne (by rw [show k = g from e]; exact hg))).trans (h.block k hk hne)⟩
/-- Where only later blocks are turned: as it was, below. -/
theorem Kept.to_below {bad : Nat → Prop} {B : Nat} {w0 w w' : World} (h : Kept bad w w') (hb : Below B w0 w) (hB : B ≤ w.heap.size) (hn : ∀ k, bad k → B ≤ k) : Below B w0 w' :=
  ⟨h.os.trans hb.os, h.tape.trans hb.tape, h.output.trans hb.output, Nat.le_trans hb.size h.size, fun k hk => (h.block k (Nat.lt_of_lt_of_le hk hB) (fun q => by have := hn k q; omega)).trans (hb.block k hk)⟩

/-! ### numbers off bytes -/
/-- A row off bytes. -/
def rowT (l : List Int) : List Int × Nat × Bool := match cutN l with
  | some (p, s) => (p, s, true)
  | none => ([], 0, false)
theorem rowT_out (l : List Int) : outC (cutN l) = ((rowT l).1, ((rowT l).2.1 : Int), (rowT l).2.2) := by
  unfold rowT
  cases cutN l <;> rfl
theorem rowT_size {l : List Int} (hl : IsBytes l) : (rowT l).2.1 ≤ l.length ∧ (rowT l).1.length ≤ l.length ∧ IsBytes (rowT l).1 := by
  unfold rowT cutN
  cases h : takeN l with
  | none => exact ⟨Nat.zero_le _, Nat.zero_le _, fun c hc => by cases hc⟩
  | some q =>
    obtain ⟨v, s⟩ := q
    have ht := takeN_tells hl h
    by_cases hlt : (l.length : Int) - s < v
    · simp only [if_pos hlt]; exact ⟨Nat.zero_le _, Nat.zero_le _, fun c hc => by cases hc⟩
    · simp only [if_neg hlt]
      refine ⟨by omega, by rw [List.length_drop, List.length_take]; omega, (hl.take _).drop _⟩

/-! ### a reader in memory -/
/-- A reader's block: what is left (in a block below B), and a flag. -/
structure RdAt (B : Nat) (w : World) (R : Nat) (A : Option Addr) (c : Nat) (l : List Int) (ok : Bool) : Prop where
  reader : Lies w R [.slice A l.length c, .bool ok]
  cap : l.length ≤ c
  row : Kd.C (Kd.int .u8) w A l.length l
  far : ∀ ad, A = some ad → 0 < l.length → ad.block < B
  bytes : IsBytes l
  short : l.length < 140737488355328
  atR : B ≤ R
section
variable {B : Nat} {w w' : World} {R : Nat} {A A' : Option Addr} {c c' : Nat} {l l' : List Int} {ok : Bool}
theorem RdAt.below (h : RdAt B w R A c l ok) (hb : Below w.heap.size w w') : RdAt B w' R A c l ok :=
  { h with reader := h.reader.below hb (h.reader.lt (by simp)), row := Kd.C_below h.row hb }
theorem RdAt.row_set (h : RdAt B w R A c l ok) {g : Nat} (hg : B ≤ g) (i : Nat) (v : Value) : Kd.C (Kd.int .u8) (w.setCell ⟨g, i, none⟩ v) A l.length l :=
  C_stays h.row (fun ad e hn => Below.heap_setCell w ⟨g, i, none⟩ _ _ (fun q => by have := h.far ad e hn; have q' : ad.block = g := q; omega))
theorem RdAt.setOk (h : RdAt B w R A c l ok) (b : Bool) : RdAt B (w.setCell ⟨R, 1, none⟩ (.bool b)) R A c l b :=
  { h with reader := h.reader.set 1 (by simp) _, row := h.row_set h.atR _ _ }
theorem RdAt.setRest (h : RdAt B w R A c l ok) (hc : l'.length ≤ c') (hr : Kd.C (Kd.int .u8) w A' l'.length l') (hl : IsBytes l') (hs : l'.length < 140737488355328)
    (hA : ∀ ad', A' = some ad' → 0 < l'.length → ad'.block < B) : RdAt B (w.setCell ⟨R, 0, none⟩ (.slice A' l'.length c')) R A' c' l' ok :=
  { h with reader := h.reader.set 0 (by simp) _, cap := hc, row := C_stays hr (fun ad e hn => Below.heap_setCell w ⟨R, 0, none⟩ _ _ (fun q => by have := hA ad e hn; have := h.atR; have q' : ad.block = R := q; omega)), far := hA, bytes := hl, short := hs }
end
/-- A row is told, that lies below. -/
def RowRet (B : Nat) (w' : World) (e : Ending) (p : List Int) : Prop := ∃ A1 c1, e = .returned (.slice A1 p.length c1) ∧ p.length ≤ c1 ∧ Kd.C (Kd.int .u8) w' A1 p.length p ∧ (∀ ad, A1 = some ad → 0 < p.length → ad.block < B)
def rrow (l : List Int) (e : Bool) : List Int × List Int × Bool := if (e || !(rowT l).2.2) = true then ([], l, true) else ((rowT l).1, l.drop (rowT l).2.1, false)
set_option maxRecDepth 100000 in
set_option maxHeartbeats 4000000 in
theorem rrow_calls (B R : Nat) (A : Option Addr) (c : Nat) (l : List Int) (er : Bool) (w : World) (hR : RdAt B w R A c l er) :
    Calls Tryz.prog 43 #[.pointer (some ⟨R, 0, none⟩)] w fun e w' =>
      RowRet B w' e (rrow l er).1 ∧
      (∃ A' c', RdAt B w' R A' c' (rrow l er).2.1 (rrow l er).2.2) ∧ Kept (fun k => k = R) w w' := by
  have hsz := rowT_size hR.bytes
  have hct := rcut_tells 40 l hR.bytes hR.short (by decide)
  rw [rowT_out] at hct
  obtain ⟨p, hp⟩ : ∃ p, (rowT l).1 = p := ⟨_, rfl⟩
  obtain ⟨s, hs⟩ : ∃ s, (rowT l).2.1 = s := ⟨_, rfl⟩
  obtain ⟨k', hk'⟩ : ∃ k', (rowT l).2.2 = k' := ⟨_, rfl⟩
  have hrn : rrow l er = if (er || !k') = true then ([], l, true) else (p, l.drop s, false) := by unfold rrow; rw [hp, hs, hk']
  rw [hp, hs, hk'] at hct
  rw [hs] at hsz
  have HRN := Aside0.mk hrn
  have hBw : B ≤ w.heap.size := Nat.le_trans hR.atR (Nat.le_of_lt (hR.reader.lt (by simp)))
  have hcall := althingref1_Cut.calls 40 A c l p (s : Int) k' B w hR.row hR.far hBw hR.cap hct
  obtain ⟨i8, hi8, _, hsz8, _⟩ := info_parts info5
  obtain ⟨A2, hcut, hCr, hcc, hAA⟩ := cut_tail (P := Tryz.prog) 50 5 Tryz.underlying50 hi8 hsz8 A c l s hsz.1 hR.cap
  have HCALL := Aside0.mk hcall
  have HR := Aside0.mk hR
  have HCR := Aside0.mk hCr
  have HCC := Aside0.mk hcc
  have HAA := Aside0.mk hAA
  have r0 := hR.reader.cell (i := 0) (v := .slice A l.length c) rfl
  clear hct hR hCr hcc hAA hp hs hk' hi8 hsz8 hsz hrn hBw hcall
  cases er <;> cases k'
  case false.true =>
    go_enter Tryz.func43, Tryz.ntmps43
    go_upto_region 5 with (go_at_call 87; go_loud ((with_reducible refine HCALL.out.mono ?_); rintro e w1 ⟨v0, rfl, hr_, hb_⟩; obtain ⟨⟨A1, c1, hv_, hC1_, hc1_⟩, hfb_, _⟩ := hr_; subst hv_; have HFB := Aside0.mk hfb_; have HC1 := Aside0.mk hc1_; have HCP := Aside0.mk hC1_; clear hfb_ hc1_ hC1_; have HR1 := Aside0.mk (HR.out.below hb_); have HK1 := Aside0.mk ((Kept.refl (fun k => k = R) w).below hb_); clear hb_; clear r0; have q1 := HR1.out.reader.cell (i := 1) (v := .bool _) rfl))
    clear q1
    have r0 := HR1.out.reader.cell (i := 0) (v := .slice A l.length c) rfl
    have f0 := HR1.out.reader.frozen 0 (by simp)
    have n1_ := HR1.out.setRest (A' := A2) (c' := c - s) (l' := l.drop s) (by rw [List.length_drop]; exact HCC.out) (HCR.out _ _ HR1.out.row) (HR1.out.bytes.drop s) (by rw [List.length_drop]; have := HR1.out.short; omega) (fun ad' e hn => by
      obtain ⟨ad, e1, e2⟩ := HAA.out ad' e
      rw [e2]; exact HR1.out.far ad e1 (by rw [List.length_drop] at hn; omega))
    have k1_ := HK1.out.set (g := R) rfl 0 (.slice A2 (l.length - s) (c - s))
    rw [List.length_drop] at n1_
    have hfb : ∀ ad, A1 = some ad → 0 < p.length → ad.block < B := fun ad e _ => HFB.out ad.block (by rw [e]; simp [Value.ownBlock])
    have c1_ : Kd.C (Kd.int .u8) (w1.setCell ⟨R, 0, none⟩ (.slice A2 (l.length - s) (c - s))) A1 p.length p := C_stays HCP.out (fun ad e hn => Below.heap_setCell w1 ⟨R, 0, none⟩ _ _ (fun q => by have := hfb ad e hn; have := HR.out.atR; have q' : ad.block = R := q; omega))
    have N1 := Aside0.mk n1_
    have K1 := Aside0.mk k1_
    have C1 := Aside0.mk c1_
    have HF1 := Aside0.mk hfb
    clear n1_ k1_ c1_ hfb
    go_wp2
    go_ret
    rw [HRN.out]
    exact ⟨⟨A1, c1, rfl, HC1.out, C1.out, HF1.out⟩, ⟨A2, c - s, N1.out⟩, K1.out⟩
  all_goals (
    go_enter Tryz.func43, Tryz.ntmps43
    go_wp2_with (go_at_call 87; go_loud ((with_reducible refine HCALL.out.mono ?_); rintro e w1 ⟨v0, rfl, hr_, hb_⟩; obtain ⟨⟨A1, c1, hv_, hC1_, hc1_⟩, hfb_, _⟩ := hr_; subst hv_; clear hfb_ hc1_ hC1_; have HR1 := Aside0.mk (HR.out.below hb_); have HK1 := Aside0.mk ((Kept.refl (fun k => k = R) w).below hb_); clear hb_; clear r0; have q1 := HR1.out.reader.cell (i := 1) (v := .bool _) rfl; have q2 := HR1.out.reader.frozen 1 (by simp)))
    go_ret
    rw [HRN.out]
    exact ⟨⟨none, 0, rfl, Nat.le_refl _, Kd.C_nil _ _, fun _ h _ => by cases h⟩, ⟨A, c, HR1.out.setOk true⟩, HK1.out.set (g := R) rfl 1 _⟩)
end Go.Proofs.YtockdfnnhkhlkaaGreatDoor.G

/- The reference's Rows: all rows, as parts of the bytes. -/
namespace Go.Proofs.YtockdfnnhkhlkaaGreatDoor.G
open Go.RowKit Go.Shelf Go.Proofs.YtockdfnnhkhlkaaGreatDoorW.PrintWords Go.Proofs.YtockdfnnhkhlkaaGreatDoorW.PrintLast Go.Proofs.YtockdfnnhkhlkaaGreatDoorW.PrintMore Go.Proofs.YtockdfnnhkhlkaaGreatDoor.PNum
set_option linter.unusedVariables false
set_option linter.unusedSimpArgs false

/-- A slice as a value alone. -/
abbrev Sl := Option Addr × Nat × Nat
def KSl : Kd Sl := Kd.scalar (fun x => .slice x.1 x.2.1 x.2.2) (fun _ => rfl)
def SlOk (B : Nat) (w : World) (t : Sl) (p : List Int) : Prop := t.2.1 = p.length ∧ t.2.1 ≤ t.2.2 ∧ Kd.C (Kd.int .u8) w t.1 p.length p ∧ ∀ ad, t.1 = some ad → 0 < p.length → ad.block < B
def SlsOk (B : Nat) (w : World) (ts : List Sl) (ps : List (List Int)) : Prop := ts.length = ps.length ∧ ∀ (i : Nat) (t : Sl) (p : List Int), ts[i]? = some t → ps[i]? = some p → SlOk B w t p
theorem SlOk.below {B : Nat} {w w' : World} {t : Sl} {p : List Int} (h : SlOk B w t p) (hb : ∀ k, k < B → w'.heap[k]? = w.heap[k]?) : SlOk B w' t p :=
  ⟨h.1, h.2.1, C_stays h.2.2.1 (fun ad e hn => hb _ (h.2.2.2 ad e hn)), h.2.2.2⟩
theorem SlsOk.below {B : Nat} {w w' : World} {ts : List Sl} {ps : List (List Int)} (h : SlsOk B w ts ps) (hb : ∀ k, k < B → w'.heap[k]? = w.heap[k]?) : SlsOk B w' ts ps :=
  ⟨h.1, fun i t p ht hp => (h.2 i t p ht hp).below hb⟩
theorem SlsOk.snoc {B : Nat} {w : World} {ts : List Sl} {ps : List (List Int)} {t : Sl} {p : List Int} (h : SlsOk B w ts ps) (hp : SlOk B w t p) : SlsOk B w (ts ++ [t]) (ps ++ [p]) := by
  refine ⟨by simp [h.1], fun i t' p' ht hp' => ?_⟩
  rcases Nat.lt_trichotomy i ts.length with hi | hi | hi
  · rw [List.getElem?_append_left hi] at ht
    rw [List.getElem?_append_left (by rw [← h.1]; exact hi)] at hp'
    exact h.2 i t' p' ht hp'
  · subst hi
    rw [List.getElem?_append_right (Nat.le_refl _), Nat.sub_self] at ht
    rw [h.1, List.getElem?_append_right (Nat.le_refl _), Nat.sub_self] at hp'
    cases ht
    cases hp'
    exact hp
  · rw [List.getElem?_eq_none (by simp; omega)] at ht
    cases ht
theorem rrow_none {l : List Int} (h : cutN l = none) : rrow l false = ([], l, true) := by
  unfold rrow rowT
  rw [h]
  simp
theorem rrow_some {l p : List Int} {s : Nat} (h : cutN l = some (p, s)) : rrow l false = (p, l.drop s, false) := by
  unfold rrow rowT
  rw [h]
  simp
def mRd (N : Nat) (w : World) : Nat := (match w.cell? ⟨N, 0, none⟩ with | some (.slice _ n _) => 2 * n | _ => 0) + (match w.cell? ⟨N, 1, none⟩ with | some (.bool false) => 1 | _ => 0)
theorem mRd_at {B : Nat} {w : World} {N : Nat} {A : Option Addr} {c : Nat} {l : List Int} {er : Bool} (h : RdAt B w N A c l er) : mRd N w = 2 * l.length + (if er = true then 0 else 1) := by
  unfold mRd
  rw [h.reader.cell (i := 0) rfl, h.reader.cell (i := 1) rfl]
  cases er <;> rfl

set_option maxRecDepth 100000 in
set_option maxHeartbeats 8000000 in
theorem rrows_calls (A0 : Option Addr) (c0 : Nat) (b : List Int) (w : World) (hr0 : Kd.C (Kd.int .u8) w A0 b.length b) (hc0 : b.length ≤ c0) (hb : IsBytes b) (hbl : b.length ≤ 1000000000) :
    Calls Tryz.prog 19 #[.slice A0 b.length c0] w fun e w' => ∃ v ts er, e = .returned (.tuple #[v, .bool er]) ∧ KSl.R 50 w' w.heap.size (fun k => w.heap.size + 1 ≤ k) v ts ∧ SlsOk w.heap.size w' ts (rowsL b) ∧ Below w.heap.size w w' := by
  have hlt : ∀ ad, A0 = some ad → 0 < b.length → ad.block < w.heap.size := fun ad e hn => by subst e; exact Kd.C_lt hr0 hn (by decide)
  have HW := Aside0.mk hbl
  have n0_ : RdAt w.heap.size (w.alloc (.cells #[.slice A0 b.length c0, .bool false] 89)) w.heap.size A0 c0 b false :=
    ⟨Lies.box (t := 89) (blk_new w _), hc0, Kd.C_alloc hr0 _, hlt, hb, by omega, Nat.le_refl _⟩
  have n1_ := below_alloc (Below.refl w.heap.size w) (.cells #[.slice A0 b.length c0, .bool false] 89)
  have HRD := Aside0.mk n0_
  have HB0 := Aside0.mk n1_
  clear n0_ n1_ hr0 hb hlt hbl
  go_enter Tryz.func19, Tryz.ntmps19
  go_upto_region 3 with (fail)
  generalize w.alloc (.cells #[.slice A0 b.length c0, .bool false] 89) = w1 at HRD HB0 ⊢
  go_loopw [4, 6] (fun v x wr => ∃ (ts : List Sl) (ps : List (List Int)) (rest : List Int) (A' : Option Addr) (c' : Nat) (er : Bool), Aside0 (KSl.R 50 wr w.heap.size (fun k => w.heap.size + 1 ≤ k) v ts) ∧ Aside0 (SlsOk w.heap.size wr ts ps) ∧ Aside0 (RdAt w.heap.size wr w.heap.size A' c' rest er) ∧ Aside0 ((er = false → rowsL b = ps ++ rowsL rest) ∧ (er = true → rowsL b = ps)) ∧ Aside0 (Below w.heap.size w wr ∧ ps.length + rest.length ≤ b.length)) (fun _ _ wr => mRd w.heap.size wr)
  case atStart => exact ⟨[], [], b, A0, c0, false, ⟨Kd.R_nil _ _ _ _ _⟩, ⟨rfl, fun i t p ht => by simp at ht⟩, HRD, ⟨fun _ => rfl, fun e => by cases e⟩, ⟨HB0.out, by simp⟩⟩
  case round =>
    obtain ⟨ts, ps, rest, A', c', er, HR, HS, HD, HP, HBw⟩ := hrel
    have r0 := HD.out.reader.cell (i := 0) (v := .slice A' rest.length c') rfl
    have r1 := HD.out.reader.cell (i := 1) (v := .bool er) rfl
    by_cases hlen : 0 < rest.length
    · cases er with
      | true =>
        have hp : rowsL b = ps := HP.out.2 rfl
        have HPP := Aside0.mk hp
        clear hp HP
        go_wp2
        go_region
        go_wp2
        go_ret2
        exact ⟨u4, ts, _, rfl, Kd.R_below HR.out (Below.drew (Below.refl _ _)), by rw [HPP.out]; exact HS.out, HBw.out.1.drew⟩
      | false =>
        have hp : rowsL b = ps ++ rowsL rest := HP.out.1 rfl
        have HPP := Aside0.mk hp
        have HLEN := Aside0.mk hlen
        have HM : Aside0 (mRd w.heap.size wr = 2 * rest.length + 1) := ⟨mRd_at HD.out⟩
        have hrow := rrow_calls w.heap.size w.heap.size A' c' rest false wr HD.out
        clear hp HP
        cases hT : cutN rest with
        | none =>
          rw [rrow_none hT] at hrow
          have HROW := Aside0.mk hrow
          have HE : Aside0 (rowsL b = ps) := ⟨by rw [HPP.out, rowsL_none hT, List.append_nil]⟩
          clear hrow hT
          go_upto_region 5 with (go_at_call 43; go_loud (refine HROW.out.mono ?_; rintro e w2 ⟨⟨A1, c1, rfl, hc1, hC1, hf1⟩, ⟨A2, c2, hD2⟩, hk2⟩; have HD2 := Aside0.mk hD2; have HK2 := Aside0.mk hk2; clear hc1 hC1 hf1 hD2 hk2 r0 r1; have r1 := HD2.out.reader.cell (i := 1) (v := .bool true) rfl))
          go_wp2
          refine ⟨⟨ts, ps, rest, A2, c2, true, ⟨?_⟩, ⟨HS.out.below (fun k hk => HK2.out.block k (Nat.lt_of_lt_of_le hk HBw.out.1.size) (by omega))⟩, HD2, ⟨⟨fun e => (by cases e), fun _ => HE.out⟩⟩, ⟨HK2.out.to_below HBw.out.1 HBw.out.1.size (fun k hk => by omega), HBw.out.2⟩⟩, ?_⟩
          · exact Kd.R_step HR.out (fun k hk hl => HK2.out.block k hl (by omega))
          · rw [HM.out, mRd_at HD2.out]; simp
        | some y =>
          obtain ⟨p, s⟩ := y
          have hcs := cutN_size hT
          rw [rrow_some hT] at hrow
          have HROW := Aside0.mk hrow
          have HE : Aside0 (rowsL b = (ps ++ [p]) ++ rowsL (rest.drop s)) := ⟨by rw [HPP.out, rowsL_some hT]; simp⟩
          have HCS := Aside0.mk hcs
          have HTL : Aside0 (ts.length = ps.length) := ⟨HS.out.1⟩
          clear hrow hT hcs
          go_upto_region 6 with (go_at_call 43; go_loud (refine HROW.out.mono ?_; rintro e w2 ⟨⟨A1, c1, rfl, hc1, hC1, hf1⟩, ⟨A2, c2, hD2⟩, hk2⟩; have HD2 := Aside0.mk hD2; have HK2 := Aside0.mk hk2; have HP1 : Aside0 (SlOk w.heap.size w2 (A1, p.length, c1) p) := ⟨rfl, hc1, hC1, hf1⟩; clear hc1 hC1 hf1 hD2 hk2 r0 r1; have r1 := HD2.out.reader.cell (i := 1) (v := .bool false) rfl))
          have HB2 : Aside0 (Below w.heap.size w w2) := ⟨HK2.out.to_below HBw.out.1 HBw.out.1.size (fun k hk => by omega)⟩
          have HR2 : Aside0 (KSl.R 50 w2 w.heap.size (fun k => w.heap.size + 1 ≤ k) u4 ts) := ⟨Kd.R_step HR.out (fun k hk hl => HK2.out.block k hl (by omega))⟩
          have HSZ2 : Aside0 (w.heap.size + 1 ≤ w2.heap.size) := ⟨HD2.out.reader.lt (by simp)⟩
          go_wp2_with ((with_reducible refine gate_builtin (b := .append) (xs := #[.tmp 30, .tmp 32]) rfl ?_); at_builtin; refine Kd.R_append KSl (w0 := w2) w.heap.size rfl (.tmp 30) (.tmp 32) 51 50 (.slice none 0 0) 24 rfl Tryz.underlying51 info50 rfl (by decide) (by decide) u4 ts (A1, p.length, c1) [.slice A1 p.length c1] (fun k => w.heap.size + 1 ≤ k) (fun _ => False) rfl rfl rfl (fun _ h => h.elim) (fun k hk => Nat.le_trans HSZ2.out hk) HR2.out (Below.refl _ _) (Nat.le_trans (Nat.le_succ _) HSZ2.out) (by have := HW.out; have := HBw.out.2; have := HTL.out; omega) ?_; intro v3 w3 hR_ hb_ hg_ _; have HR3 := Aside0.mk hR_; have HG3 : Aside0 (w2.grownBy w3 u4.ownBlock) := ⟨hg_⟩; have HOB : Aside0 (∀ k, u4.ownBlock = some k → w.heap.size + 1 ≤ k) := ⟨fun k hk => HR2.out.1 k hk⟩; clear hR_ hb_ hg_)
          have hbl3 : ∀ k, k < w.heap.size + 1 → w3.heap[k]? = w2.heap[k]? := fun k hk => HG3.out.block k (Nat.lt_of_lt_of_le hk HSZ2.out) (fun e => by have := HOB.out k e.symm; omega)
          have hD3 : RdAt w.heap.size w3 w.heap.size A2 c2 (rest.drop s) false := { HD2.out with reader := HD2.out.reader.of_block (hbl3 _ (Nat.lt_succ_self _)), row := C_stays HD2.out.row (fun ad e hn => hbl3 _ (Nat.lt_succ_of_lt (HD2.out.far ad e hn))) }
          refine ⟨⟨ts ++ [(A1, p.length, c1)], ps ++ [p], rest.drop s, A2, c2, false, HR3, ⟨SlsOk.snoc (HS.out.below (fun k hk => ?_)) (HP1.out.below (fun k hk => hbl3 k (Nat.lt_succ_of_lt hk)))⟩, ⟨hD3⟩, ⟨⟨fun _ => HE.out, fun e => (by cases e)⟩⟩, ⟨?_, ?_⟩⟩, ?_⟩
          · exact (hbl3 k (Nat.lt_succ_of_lt hk)).trans (HK2.out.block k (Nat.lt_of_lt_of_le hk HBw.out.1.size) (by omega))
          · exact HB2.out.grown HG3.out (Nat.le_trans (Nat.le_succ _) HSZ2.out) (fun k e => Nat.le_trans (Nat.le_succ _) (HOB.out k e))
          · have := HBw.out.2
            have := HCS.out
            rw [List.length_append, List.length_drop]
            simp only [List.length_singleton]
            omega
          · rw [HM.out, mRd_at hD3, List.length_drop]
            have := HCS.out
            simp
            omega
    · have hr0 : rest = [] := List.length_eq_zero_iff.1 (by omega)
      have hp : rowsL b = ps := by
        cases er with
        | true => exact HP.out.2 rfl
        | false =>
          have := HP.out.1 rfl
          rw [hr0, show rowsL [] = [] from rowsL_none rfl, List.append_nil] at this
          exact this
      have HPP := Aside0.mk hp
      clear hp hr0
      go_wp2
      go_region
      go_wp2
      go_ret2
      exact ⟨u4, ts, _, rfl, Kd.R_below HR.out (Below.drew (Below.refl _ _)), by rw [HPP.out]; exact HS.out, HBw.out.1.drew⟩
end Go.Proofs.YtockdfnnhkhlkaaGreatDoor.G
