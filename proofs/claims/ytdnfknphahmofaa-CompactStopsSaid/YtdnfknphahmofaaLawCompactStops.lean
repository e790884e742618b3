/- CompactStops: the ways over n bytes of nothing, as numbers and as rows, end where they are left, or where the bytes end. For every n up to 100 and every stop from 1 to 120; of others nothing is said. -/
import Derived.Test.YtdnfknphahmofaaFrame
import Derived.Test.YtdnfknphahmofaaPKnown
import Derived.Test.YtdnfknphahmofaaHRows
import Derived.Deep.OwnRows
import Derived.Test.YtdnfknphahmofaaGx3
namespace Go.Proofs.Ytdnfknphahmofaa.LawCompactStops
set_option linter.unusedSimpArgs false
set_option linter.unusedVariables false
open Go.ChangeShapes Go.WideShapes Go.ChangeAt Go.RowKit Go.Shelf Go.Proofs.Ytdnfknphahmofaa.G Go.Proofs.Ytdnfknphahmofaa.PNum Go.Proofs.Ytdnfknphahmofaa.Frame Go.Proofs.YtdnfknphahmofaaW.PrintWords Go.Proofs.YtdnfknphahmofaaW.PrintMore
attribute [local go_sem] Oper.semAt_some

theorem listIn_make_row {F : Fence} {n0 : Nat} {P : Program} (w : World) {ops : Array Oper} {rest : List Oper} {o : Oper} {a : Act} {Q : Exit → Act → World → Prop}
    (hg : o.guard = none) (l c : Operand) (t : TypeId) (hop : o.op = Op.makeSlice t l c)
    (e : TypeId) (i : TypeInfo) (z : Value) (ht : P.underlying t = some (.slice e)) (hi : P.info? e = some i) (hz : i.zero = some z) (hsize : i.size = 1) (hz1 : z.cells = #[z])
    (kl kc : IntKind) (n : Nat) (hl : a.eval l = .int kl (n : Int)) (hc : a.eval c = .int kc (n : Int)) (hbytes : i.bytes * n ≤ 281474976710656) (h63 : n ≤ 9223372036854775807)
    (hK : wpListIn F n0 P ops Q rest (a.put o.dst (.slice (some ⟨w.heap.size, 0, none⟩) n n)) (w.alloc (.cells (madeCells #[z] n) e))) :
    wpListIn F n0 P ops Q (o :: rest) a w := by
  refine wpListIn_plain hg fun K hK' => ?_
  have hrun := run_make_row (P := P) t e i z ht hi hz hsize hz1 kl kc n hbytes h63 w
  unfold Oper.wpIn
  refine ⟨?_, ?_⟩
  · simp [Oper.about, hop]
  · rw [Oper.semAt_plain F _ _ (by rw [hop]; intro c hc'; cases hc')]
    simp [execOp, hop, hl, hc, hrun, Result.andThen]
    exact hK' _ _ hK

theorem madeCells_zeros (n : Nat) : (madeCells #[Value.int .u8 0] n).toList = (List.replicate n (0 : Int)).map (Value.int .u8) := by
  refine List.ext_getElem (by simp [madeCells]) fun i h1 h2 => ?_
  simp [madeCells, Nat.mod_one]
theorem zeros_C (w : World) (n : Nat) (hn : n ≤ 1000) : Kd.C (Kd.int .u8) (w.alloc (.cells (madeCells #[.int .u8 0] n) 5)) (some ⟨w.heap.size, 0, none⟩) (List.replicate n (0 : Int)).length (List.replicate n 0) := by
  have h := World.ownsRow_lit (base := w.heap.size) (e := 5) (size := 1) w (madeCells #[.int .u8 0] n) n (Nat.le_refl _) (by unfold maxLen; omega) (by simp [madeCells])
  rw [madeCells_zeros] at h
  have h2 : Kd.R (Kd.int .u8) 5 (w.alloc (.cells (madeCells #[.int .u8 0] n) 5)) w.heap.size (fun _ => True) (.slice (some ⟨w.heap.size, 0, none⟩) n n) (List.replicate n (0 : Int)) := Kd.R_of_own (by rw [List.length_replicate]; exact h) (fun _ _ => trivial)
  have h3 := (Kd.R_reads' (by simpa using h2 : Kd.R (Kd.int .u8) 5 (w.alloc (.cells (madeCells #[.int .u8 0] n) 5)) w.heap.size (fun _ => True) (.slice (some ⟨w.heap.size, 0, none⟩) (List.replicate n (0 : Int)).length n) (List.replicate n (0 : Int)))).2.2
  exact h3

theorem takeN_zero (l : List Int) : takeN (0 :: l) = some (0, 1) := takeN_put (n := 0) (by decide) (by decide) l

theorem numsL_zeros (n : Nat) : numsL (List.replicate n 0) = List.replicate n 0 := by
  induction n with
  | zero => simp [numsL, numsF, takeN]
  | succ n ih => rw [List.replicate_succ, numsL_some (takeN_zero _)]; simp [ih]
theorem cutN_zero (l : List Int) : cutN (0 :: l) = some ([], 1) := by
  simp [cutN, takeN_zero]
theorem rowsL_zeros (n : Nat) : rowsL (List.replicate n 0) = List.replicate n [] := by
  induction n with
  | zero => exact rowsL_none (by simp [cutN, takeN])
  | succ n ih => rw [List.replicate_succ, rowsL_some (cutN_zero _)]; simp [ih, List.replicate_succ]
theorem zeros_bytes (n : Nat) : IsBytes (List.replicate n 0) := by
  intro x hx; obtain rfl := List.eq_of_mem_replicate hx; omega

set_option maxRecDepth 100000 in
set_option maxHeartbeats 8000000 in
theorem walk (n s : Nat) (hn : n ≤ 100) (hs1 : 1 ≤ s) (hs2 : s ≤ 120) (w : World) :
    Calls Try.prog 9 #[.int .i64 (n : Int), .int .i64 (s : Int)] w fun e w' => e = .returned (.bool true) ∧ Below w.heap.size w w' := by
  obtain ⟨i0, hi, hz0, hz1, hz2⟩ := info_parts info5
  have d1 : decide ((n : Int) < 0) = false := decide_eq_false (by omega)
  have d2 : decide ((100 : Int) < (n : Int)) = false := decide_eq_false (by omega)
  have d3 : decide ((s : Int) < 1) = false := decide_eq_false (by omega)
  have d4 : decide ((120 : Int) < (s : Int)) = false := decide_eq_false (by omega)
  have hq1 : ∀ (W : World) (f : Fn) (ts bs : Array Value), (binOp .eql 50 (.func f ts bs) .nilFunc).run Try.prog W = .ok (.bool false) W := fun W f ts bs => run_eql_func W _ Try.underlying50 f ts bs
  have hq2 : ∀ (W : World) (f : Fn) (ts bs : Array Value), (binOp .eql 53 (.func f ts bs) .nilFunc).run Try.prog W = .ok (.bool false) W := fun W f ts bs => run_eql_func W _ Try.underlying53 f ts bs
  refine (callsIn_wide (n := 6)).1 ?_
  refine callsIn_of_wp_marks Try.func9 rfl trivial ?_ rfl
  simp only [Try.ntmps9, List.size_toArray, List.length_cons, List.length_nil, Nat.reduceAdd, Nat.reduceSub, Array.replicate_succ, Array.replicate_zero, List.push_toArray, List.append_toArray, List.nil_append, List.cons_append]
  gi_wp2_with (first
    | (refine listIn_make_row _ rfl _ _ _ rfl 5 i0 (.int .u8 0) Try.underlying23 hi hz0 hz1 rfl .i64 .i64 n rfl rfl (by rw [hz2]; omega) (by omega) ?_)
    | (refine ⟨trivial, ?_⟩; gi_at_call 25; refine (nums_in _ (by decide) _ _ _ _).mono ?_; rintro e w' ⟨rfl, rfl⟩)
    | (refine ⟨trivial, ?_⟩; gi_at_call 26; refine (rows_in _ (by decide) _ _ _ _).mono ?_; rintro e w' ⟨rfl, rfl⟩))
  obtain ⟨W0, hW0⟩ : ∃ W0, W0 = (((((((((w.alloc (.cells #[.int .i64 (s : Int)] 3)).alloc (.cells #[.bool false] 4)).alloc (.cells (madeCells #[.int .u8 0] n) 5)).alloc (.cells #[.slice (some ⟨w.heap.size + 1 + 1, 0, none⟩) n n] 23)).alloc (.cells #[.func (.func 15) #[] #[]] 29)).alloc (.cells #[.slice (some ⟨w.heap.size + 1 + 1, 0, none⟩) n n] 23)).alloc (.cells #[.func (.func 22) #[] #[]] 45)).alloc (.cells #[.int .i64 0] 3)).alloc (.cells #[.int .i64 0] 3)) := ⟨_, rfl⟩
  rw [← hW0]
  have hsz : W0.heap.size = w.heap.size + 1 + 1 + 1 + 1 + 1 + 1 + 1 + 1 + 1 := by rw [hW0]; simp
  have bS : Boxed W0 (w.heap.size) 3 (.int .i64 (s : Int)) := by rw [hW0]; exact (((((((((Boxed.at (by simp) _ _).alloc _).alloc _).alloc _).alloc _).alloc _).alloc _).alloc _).alloc _)
  have bR : Boxed W0 (w.heap.size + 1) 4 (.bool false) := by rw [hW0]; exact ((((((((Boxed.at (by simp) _ _).alloc _).alloc _).alloc _).alloc _).alloc _).alloc _).alloc _)
  have bNb : Boxed W0 (w.heap.size + 1 + 1 + 1) 23 (.slice (some ⟨w.heap.size + 1 + 1, 0, none⟩) n n) := by rw [hW0]; exact ((((((Boxed.at (by simp) _ _).alloc _).alloc _).alloc _).alloc _).alloc _)
  have bNf : Boxed W0 (w.heap.size + 1 + 1 + 1 + 1) 29 (.func (.func 15) #[] #[]) := by rw [hW0]; exact (((((Boxed.at (by simp) _ _).alloc _).alloc _).alloc _).alloc _)
  have bRb : Boxed W0 (w.heap.size + 1 + 1 + 1 + 1 + 1) 23 (.slice (some ⟨w.heap.size + 1 + 1, 0, none⟩) n n) := by rw [hW0]; exact ((((Boxed.at (by simp) _ _).alloc _).alloc _).alloc _)
  have bRf : Boxed W0 (w.heap.size + 1 + 1 + 1 + 1 + 1 + 1) 45 (.func (.func 22) #[] #[]) := by rw [hW0]; exact (((Boxed.at (by simp) _ _).alloc _).alloc _)
  have bK : Boxed W0 (w.heap.size + 1 + 1 + 1 + 1 + 1 + 1 + 1) 3 (.int .i64 0) := by rw [hW0]; exact ((Boxed.at (by simp) _ _).alloc _)
  have bJ : Boxed W0 (w.heap.size + 1 + 1 + 1 + 1 + 1 + 1 + 1 + 1) 3 (.int .i64 0) := by rw [hW0]; exact (Boxed.at (by simp) _ _)
  have hZ : Kd.C (Kd.int .u8) W0 (some ⟨w.heap.size + 1 + 1, 0, none⟩) (List.replicate n (0 : Int)).length (List.replicate n 0) := by
    rw [hW0]
    have := zeros_C ((w.alloc (.cells #[.int .i64 (s : Int)] 3)).alloc (.cells #[.bool false] 4)) n (by omega)
    simp only [World.size_alloc] at this
    exact Kd.C_alloc (Kd.C_alloc (Kd.C_alloc (Kd.C_alloc (Kd.C_alloc (Kd.C_alloc this _) _) _) _) _) _
  have hB0 : Below w.heap.size w W0 := by
    rw [hW0]
    exact (((((((((Below.refl _ w).alloc (Nat.le_refl _) _).alloc (by simp) _).alloc (by simp; omega) _).alloc (by simp; omega) _).alloc (by simp; omega) _).alloc (by simp; omega) _).alloc (by simp; omega) _).alloc (by simp; omega) _).alloc (by simp; omega) _
  have hln : (List.replicate n (0 : Int)).length = n := List.length_replicate
  clear hW0
  -- the numbers
  refine wpIn_mid 0 (fun D W => W0.heap.size ≤ D ∧ W.heap[D]? = some (.deferred (some [])) ∧ Boxed W (w.heap.size + 1 + 1 + 1 + 1 + 1 + 1 + 1) 3 (.int .i64 ((min n s : Nat) : Int)) ∧ KeepsS (fun k => k < W0.heap.size ∧ k ≠ w.heap.size + 1 + 1 + 1 + 1 + 1 + 1 + 1) W0 W ∧ Below w.heap.size w W) ?_ (fun _ _ q => q) ?_
  · refine wpIn_rangeFunc_ownG rfl (by decide) (gf := 38) (lb := #[.pointer (some ⟨w.heap.size + 1 + 1 + 1, 0, none⟩), .pointer (some ⟨w.heap.size + 1 + 1 + 1 + 1, 0, none⟩)]) rfl trivial (enters_of Try.func38 (by kernel_rfl) rfl)
      (nums_stops _ (by decide) (w.heap.size + 1 + 1 + 1) (w.heap.size + 1 + 1 + 1 + 1) _ n (List.replicate n 0) (zeros_bytes n) (by rw [hln]; exact Nat.le_refl _) (fun k => k < w.heap.size + 1 + 1 + 1 + 1 + 1 + 1 + 1) (by omega) (by omega) (fun ad e _ => by cases e; show w.heap.size + 1 + 1 < _; omega) W0 (by intro k hk; omega) (by rw [hln]; exact bNb.cell) bNf.cell hZ) keepsS_t (keepsS_b (by intro k hk; omega)) (Below.refl _ _) (fun _ => rfl)
      (fun (pre : List (Int × Int)) W => (Boxed W (w.heap.size + 1 + 1 + 1 + 1 + 1 + 1 + 1) 3 (.int .i64 (pre.length : Int)) ∧ pre.length < s) ∧ KeepsS (fun k => k < W0.heap.size ∧ k ≠ w.heap.size + 1 + 1 + 1 + 1 + 1 + 1 + 1) W0 W ∧ Below w.heap.size w W)
      (fun c (pre : List (Int × Int)) W => (∃ (ini : List (Int × Int)) (last : Int × Int), pre = ini ++ [last] ∧ (last.1 ≠ (ini.length : Int) ∨ last.2 ≠ 0)) ∨ ((c = .exit 0 ∧ pre.length = s) ∧ Boxed W (w.heap.size + 1 + 1 + 1 + 1 + 1 + 1 + 1) 3 (.int .i64 (pre.length : Int)) ∧ KeepsS (fun k => k < W0.heap.size ∧ k ≠ w.heap.size + 1 + 1 + 1 + 1 + 1 + 1 + 1) W0 W ∧ Below w.heap.size w W))
      (OwnFrom.and (OwnFrom.and (box_from _ _) (fun _ _ _ _ hs _ _ => hs)) (OwnFrom.and (keeps_from (fun k q => q.1) (fun k q => q.1)) (ownFrom_below (Nat.le_refl _) (by omega))))
      (fun c => or_from (OwnFrom.and (box_from _ _) (OwnFrom.and (keeps_from (fun k q => q.1) (fun k q => q.1)) (ownFrom_below (Nat.le_refl _) (by omega)))))
      ⟨⟨bK, hs1⟩, KeepsS.refl _ _, hB0⟩ ?a1 ?assign ?body ?done ?stop
    case assign =>
      intro l x W K hK
      gi_wp2
      exact hK
    case body =>
      rintro l pre ⟨x1, x2⟩ W ⟨⟨hk, hps⟩, hkp, hB⟩ hlt'
      have hS := Boxed.keeps bS hkp ⟨by omega, by omega⟩
      have hR := Boxed.keeps bR hkp ⟨by omega, by omega⟩
      have c1 := hk.cell
      have f1 := hk.frozen
      have c2 := hS.cell
      have c3 := hR.cell
      have f3 := hR.frozen
      have e9 : (((pre ++ [(x1, x2)]).length : Nat) : Int) = (pre.length : Int) + 1 := by simp
      have l9 : (pre ++ [(x1, x2)]).length = pre.length + 1 := by simp
      have hb9 : Boxed (W.setCell ⟨w.heap.size + 1 + 1 + 1 + 1 + 1 + 1 + 1, 0, none⟩ (.int .i64 ((pre.length : Int) + 1))) (w.heap.size + 1 + 1 + 1 + 1 + 1 + 1 + 1) 3 (.int .i64 (((pre ++ [(x1, x2)]).length : Nat) : Int)) := by rw [e9]; exact hk.set _
      have hk9 : KeepsS (fun k => k < W0.heap.size ∧ k ≠ w.heap.size + 1 + 1 + 1 + 1 + 1 + 1 + 1) W0 (W.setCell ⟨w.heap.size + 1 + 1 + 1 + 1 + 1 + 1 + 1, 0, none⟩ (.int .i64 ((pre.length : Int) + 1))) := hkp.setCell (by simp) _
      have hB9 : Below w.heap.size w (W.setCell ⟨w.heap.size + 1 + 1 + 1 + 1 + 1 + 1 + 1, 0, none⟩ (.int .i64 ((pre.length : Int) + 1))) := hB.setCell (by show w.heap.size ≤ w.heap.size + 1 + 1 + 1 + 1 + 1 + 1 + 1; omega) _
      by_cases he : x1 = (pre.length : Int)
      · by_cases hz : x2 = 0
        · subst hz
          by_cases hlt : pre.length + 1 < s
          · have d5 : decide ((s : Int) ≤ (pre.length : Int) + 1) = false := decide_eq_false (by omega)
            clear e9
            subst he
            gi_wp2
            exact ⟨(KeepsOthers.setCell _ _ _).from _, (KeepsS.refl _ _).setCell (by simp) _, ⟨hb9, by rw [l9]; exact hlt⟩, hk9, hB9⟩
          · have d5 : decide ((s : Int) ≤ (pre.length : Int) + 1) = true := decide_eq_true (by omega)
            clear e9
            subst he
            gi_wp2
            exact ⟨(KeepsOthers.setCell _ _ _).from _, .inr ⟨⟨rfl, by rw [l9]; omega⟩, hb9, hk9, hB9⟩⟩
        · subst he
          clear e9 l9 hb9 hk9 hB9
          gi_wp2
          exact ⟨(KeepsOthers.setCell _ _ _).from _, .inl ⟨pre, _, rfl, .inr hz⟩⟩
      · clear e9 l9 hb9 hk9 hB9
        gi_wp2
        exact ⟨(KeepsOthers.setCell _ _ _).from _, .inl ⟨pre, _, rfl, .inl he⟩⟩
    case done =>
      rintro D ys W hD rfl ⟨⟨hk, hps⟩, hkp, hB⟩ hK
      have hl : (tag (numsL (List.replicate n 0))).length = n := by rw [tag_length, numsL_zeros, List.length_replicate]
      rw [hl] at hk hps
      exact ⟨.inl rfl, D, rfl, hD, hK, by rw [show min n s = n by omega]; exact hk, hkp, hB⟩
    case stop =>
      rintro D c pre W hD ⟨ns, hns, rfl⟩ (⟨ini, last, e, hx⟩ | ⟨⟨rfl, hps⟩, hk, hkp, hB⟩) hK
      · exfalso
        have hl := tag_last e
        obtain ⟨ns', hns'⟩ := hns
        rw [numsL_zeros] at hns'
        have hm : last ∈ tag ns := by rw [e]; simp
        have hv : last.2 ∈ ns := by rw [← tag_snds ns]; exact List.mem_map_of_mem hm
        have h0 : last.2 ∈ List.replicate n 0 := by rw [← hns']; exact List.mem_append_left _ hv
        have := List.eq_of_mem_replicate h0
        omega
      · have hl : (tag ns).length ≤ n := by
          obtain ⟨ns', hns'⟩ := hns
          rw [numsL_zeros] at hns'
          have := congrArg List.length hns'
          rw [tag_length]
          simp at this; omega
        rw [hps] at hk
        exact wpIn_exit ⟨.inr rfl, D, rfl, hD, hK, by rw [show min n s = s by omega]; exact hk, hkp, hB⟩
  · rintro D W ⟨hD, hK, hk, hkp, hB⟩
    have hS := Boxed.keeps bS hkp ⟨by omega, by omega⟩
    have hR := Boxed.keeps bR hkp ⟨by omega, by omega⟩
    have hJ := Boxed.keeps bJ hkp ⟨by omega, by omega⟩
    have hRb := Boxed.keeps bRb hkp ⟨by omega, by omega⟩
    have hRf := Boxed.keeps bRf hkp ⟨by omega, by omega⟩
    have hZ1 : Kd.C (Kd.int .u8) W (some ⟨w.heap.size + 1 + 1, 0, none⟩) (List.replicate n (0 : Int)).length (List.replicate n 0) := C_keeps hZ (fun ad e _ => by cases e; simp [hsz]) hkp
    have hWs := hkp.1
    gi_wp2
    refine wpIn_mid 2 (fun D' W' => W'.heap[D]? = some (.deferred (some [])) ∧ W'.heap[D']? = some (.deferred (some [])) ∧ D < D' ∧ w.heap.size ≤ D ∧ Boxed W' (w.heap.size + 1 + 1 + 1 + 1 + 1 + 1 + 1 + 1) 3 (.int .i64 ((min n s : Nat) : Int)) ∧ Boxed W' (w.heap.size + 1 + 1 + 1 + 1 + 1 + 1 + 1) 3 (.int .i64 ((min n s : Nat) : Int)) ∧ Boxed W' w.heap.size 3 (.int .i64 (s : Int)) ∧ Boxed W' (w.heap.size + 1) 4 (.bool false) ∧ Below w.heap.size w W') ?_ (fun _ _ q => q) ?_
    · have hDlt : D < W.heap.size := (Array.getElem?_eq_some_iff.1 hK).1
      have hall : ∀ W', KeepsS (fun k => k < W.heap.size ∧ k ≠ w.heap.size + 1 + 1 + 1 + 1 + 1 + 1 + 1 + 1) W W' → W'.heap[D]? = some (.deferred (some [])) ∧ Boxed W' (w.heap.size + 1 + 1 + 1 + 1 + 1 + 1 + 1) 3 (.int .i64 ((min n s : Nat) : Int)) ∧ Boxed W' w.heap.size 3 (.int .i64 (s : Int)) ∧ Boxed W' (w.heap.size + 1) 4 (.bool false) := fun W' hq =>
        ⟨(hq.2 D ⟨hDlt, by omega⟩).trans hK, Boxed.keeps hk hq ⟨by omega, by omega⟩, Boxed.keeps hS hq ⟨by omega, by omega⟩, Boxed.keeps hR hq ⟨by omega, by omega⟩⟩
      refine wpIn_rangeFunc_T rfl (by decide) (gf := 39) (lb := #[.pointer (some ⟨w.heap.size + 1 + 1 + 1 + 1 + 1, 0, none⟩), .pointer (some ⟨w.heap.size + 1 + 1 + 1 + 1 + 1 + 1, 0, none⟩)]) rfl trivial (enters_of Try.func39 (by kernel_rfl) rfl)
        (rows_stops _ (by decide) (w.heap.size + 1 + 1 + 1 + 1 + 1) (w.heap.size + 1 + 1 + 1 + 1 + 1 + 1) _ n (List.replicate n 0) (zeros_bytes n) (by rw [hln]; omega) (by rw [hln]; exact Nat.le_refl _) (fun k => k < w.heap.size + 1 + 1 + 1 + 1 + 1 + 1 + 1) (by omega) (by omega) (fun ad e _ => by cases e; show w.heap.size + 1 + 1 < _; omega) W (by intro k hk; omega) (by rw [hln]; exact hRb.cell) hRf.cell hZ1) (rowT_from _ _) keepsS_t (keepsS_b (by intro k hk; omega)) (Below.refl _ _) (fun _ => rfl)
        (fun (pre : List RowAt) W' => (Boxed W' (w.heap.size + 1 + 1 + 1 + 1 + 1 + 1 + 1 + 1) 3 (.int .i64 (pre.length : Int)) ∧ pre.length < s) ∧ KeepsS (fun k => k < W.heap.size ∧ k ≠ w.heap.size + 1 + 1 + 1 + 1 + 1 + 1 + 1 + 1) W W' ∧ Below w.heap.size w W')
        (fun c (pre : List RowAt) W' => False ∨ ((c = .exit 2 ∧ pre.length = s) ∧ Boxed W' (w.heap.size + 1 + 1 + 1 + 1 + 1 + 1 + 1 + 1) 3 (.int .i64 (pre.length : Int)) ∧ KeepsS (fun k => k < W.heap.size ∧ k ≠ w.heap.size + 1 + 1 + 1 + 1 + 1 + 1 + 1 + 1) W W' ∧ Below w.heap.size w W'))
        (OwnFrom.and (OwnFrom.and (box_from _ _) (fun _ _ _ _ hs _ _ => hs)) (OwnFrom.and (keeps_from (fun k q => q.1) (fun k q => q.1)) (ownFrom_below (Nat.le_refl _) (by omega))))
        (fun c => or_from (OwnFrom.and (box_from _ _) (OwnFrom.and (keeps_from (fun k q => q.1) (fun k q => q.1)) (ownFrom_below (Nat.le_refl _) (by omega)))))
        ⟨⟨hJ, hs1⟩, KeepsS.refl _ _, hB⟩ ?a2 ?assign2 ?body2 ?done2 ?stop2
      case assign2 =>
        intro l x W K hK
        gi_wp2
        exact hK
      case body2 =>
        rintro l pre ⟨x1, xv, xl⟩ W1 W2 ⟨⟨hk1, hps⟩, hkp1, hB1⟩ hb12 ⟨hx1, hx2, hxv⟩ hlt'
        have hx1' : x1 = (pre.length : Int) := hx1
        subst hx1'
        have hxl : xl = [] := by
          rw [rowsL_zeros, List.getElem?_replicate] at hx2
          by_cases q : pre.length < n
          · rw [if_pos q] at hx2; cases hx2; rfl
          · rw [if_neg q] at hx2; cases hx2
        subst hxl
        obtain ⟨Ax, cx, hxe⟩ := Kd.R_slice hxv
        have hxe' : xv = .slice Ax 0 cx := hxe
        subst hxe'
        have hk2 : Boxed W2 (w.heap.size + 1 + 1 + 1 + 1 + 1 + 1 + 1 + 1) 3 (.int .i64 (pre.length : Int)) := (hb12.block _ hk1.lt).trans hk1
        have hkp2 : KeepsS (fun k => k < W.heap.size ∧ k ≠ w.heap.size + 1 + 1 + 1 + 1 + 1 + 1 + 1 + 1) W W2 := keepsS_t hkp1 (KeepsS.of_below hb12 (fun k q => Nat.lt_of_lt_of_le q.1 hkp1.1))
        have hB2 : Below w.heap.size w W2 := hB1.trans (hb12.mono hB1.size)
        obtain ⟨-, -, hS2, hR2⟩ := hall W2 hkp2
        clear hkp1 hk1 hB1 hb12
        have c1 := hk2.cell
        have f1 := hk2.frozen
        have c2 := hS2.cell
        have c3 := hR2.cell
        have f3 := hR2.frozen
        have e9 : (((pre ++ [((pre.length : Int), Value.slice Ax 0 cx, ([] : List Int))]).length : Nat) : Int) = (pre.length : Int) + 1 := by simp
        have l9 : (pre ++ [((pre.length : Int), Value.slice Ax 0 cx, ([] : List Int))]).length = pre.length + 1 := by simp
        have hb9 : Boxed (W2.setCell ⟨w.heap.size + 1 + 1 + 1 + 1 + 1 + 1 + 1 + 1, 0, none⟩ (.int .i64 ((pre.length : Int) + 1))) (w.heap.size + 1 + 1 + 1 + 1 + 1 + 1 + 1 + 1) 3 (.int .i64 (((pre ++ [((pre.length : Int), Value.slice Ax 0 cx, ([] : List Int))]).length : Nat) : Int)) := by rw [e9]; exact hk2.set _
        have hk9 : KeepsS (fun k => k < W.heap.size ∧ k ≠ w.heap.size + 1 + 1 + 1 + 1 + 1 + 1 + 1 + 1) W (W2.setCell ⟨w.heap.size + 1 + 1 + 1 + 1 + 1 + 1 + 1 + 1, 0, none⟩ (.int .i64 ((pre.length : Int) + 1))) := hkp2.setCell (by simp) _
        have hB9 : Below w.heap.size w (W2.setCell ⟨w.heap.size + 1 + 1 + 1 + 1 + 1 + 1 + 1 + 1, 0, none⟩ (.int .i64 ((pre.length : Int) + 1))) := hB2.setCell (by show w.heap.size ≤ w.heap.size + 1 + 1 + 1 + 1 + 1 + 1 + 1 + 1; omega) _
        clear e9
        by_cases hlt : pre.length + 1 < s
        · have d5 : decide ((s : Int) ≤ (pre.length : Int) + 1) = false := decide_eq_false (by omega)
          gi_wp2
          exact ⟨(KeepsOthers.setCell _ _ _).from _, (KeepsS.refl _ _).setCell (by simp) _, ⟨hb9, by simp only [List.length_append, List.length_singleton]; exact hlt⟩, hk9, hB9⟩
        · have d5 : decide ((s : Int) ≤ (pre.length : Int) + 1) = true := decide_eq_true (by omega)
          gi_wp2
          exact ⟨(KeepsOthers.setCell _ _ _).from _, ⟨rfl, by simp only [List.length_append, List.length_singleton]; omega⟩, hb9, hk9, hB9⟩
      case done2 =>
        rintro D' ys W' hD' hys ⟨⟨hk', hps⟩, hkp', hB'⟩ hK'
        have hl : ys.length = n := by
          have := congrArg List.length hys
          rwa [List.length_map, placed_length, rowsL_zeros, List.length_replicate] at this
        rw [hl] at hk' hps
        obtain ⟨q1, q2, q3, q4⟩ := hall W' hkp'
        exact ⟨.inl rfl, D', rfl, q1, hK', by omega, by omega, by rw [show min n s = n by omega]; exact hk', q2, q3, q4, hB'⟩
      case stop2 =>
        rintro D' c pre W' hD' ⟨ns, hns, hpre⟩ (h0 | ⟨⟨rfl, hps⟩, hk', hkp', hB'⟩) hK'
        · exact h0.elim
        · have hl : pre.length ≤ n := by
            obtain ⟨ns', hns'⟩ := hns
            rw [rowsL_zeros] at hns'
            have h1 := congrArg List.length hns'
            have h2 := congrArg List.length hpre
            rw [List.length_map, placed_length] at h2
            simp at h1; omega
          rw [hps] at hk'
          obtain ⟨q1, q2, q3, q4⟩ := hall W' hkp'
          exact wpIn_exit ⟨.inr rfl, D', rfl, q1, hK', by omega, by omega, by rw [show min n s = s by omega]; exact hk', q2, q3, q4, hB'⟩
    · rintro D' W' ⟨hK1, hK2, hDD, hD0, hJ', hk', hS', hR', hB'⟩
      clear hK hk hkp hB hS hR hJ hRb hRf hZ1 hWs hZ
      have c1 := hJ'.cell
      have c2 := hk'.cell
      have c3 := hS'.cell
      have hend : ∀ w1, Below W'.heap.size W' w1 → w1.cell? ⟨w.heap.size + 1, 0, none⟩ = some (.bool false) ∧ w1.frozen? ⟨w.heap.size + 1, 0, none⟩ = false := fun w1 hb1 => by
        have hR1 : Boxed w1 (w.heap.size + 1) 4 (.bool false) := (hb1.block _ hR'.lt).trans hR'
        exact ⟨hR1.cell, hR1.frozen⟩
      obtain ⟨m, hm⟩ : ∃ m, m = min n s := ⟨_, rfl⟩
      rw [← hm] at c1 c2
      by_cases hsn : (s : Int) < (n : Int)
      · have hms : m = s := by omega
        clear hm
        subst hms
        gi_wp2_with (refine ⟨trivial, ?_⟩; gi_at_call 14; refine (callsIn_wide.2 (althinglaw1_known.calls 20 true _ (known_tells 20 (by decide)))).mono ?_; rintro e w1 ⟨rfl, hb1⟩; obtain ⟨c4, f4⟩ := hend w1 hb1)
        have hR1 : Boxed w1 (w.heap.size + 1) 4 (.bool false) := (hb1.block _ hR'.lt).trans hR'
        have g1 := (KeepsOthers.setCell w1 ⟨w.heap.size + 1, 0, none⟩ (.bool true)).same D' _ ((hb1.block _ (Array.getElem?_eq_some_iff.1 hK2).1).trans hK2) rfl
        have g2 := (KeepsOthers.setCell w1 ⟨w.heap.size + 1, 0, none⟩ (.bool true)).same D _ ((hb1.block _ (Array.getElem?_eq_some_iff.1 hK1).1).trans hK1) rfl
        have g3 := (World.putObj_heap_other (o := .deferred none) (by omega : D ≠ D')).trans g2
        have r1 := boxed_putObj (boxed_putObj (hR1.set (.bool true)) (.deferred none) g1 rfl) (.deferred none) g3 rfl
        have r1' := r1.cell
        refine ⟨by simp, .inl ⟨_, _, rfl, run_takeDeferred g1, ?_⟩⟩
        refine ⟨by simp, .inl ⟨_, _, rfl, run_takeDeferred g3, ?_⟩⟩
        refine ⟨_, ?_, rfl, ?_⟩
        · simp [results, Try.f9, go_sem, r1']
        · exact (((hB'.trans (hb1.mono hB'.size)).setCell (p := ⟨w.heap.size + 1, 0, none⟩) (Nat.le_succ _) _).trans (belowK_b (w := w) (Nat.le_refl _) _ D' _ _ (by omega) g1 rfl rfl)).trans (belowK_b (w := w) (Nat.le_refl _) _ D _ _ (by omega) g3 rfl rfl)
      · have hms : m = n := by omega
        clear hm
        subst hms
        gi_wp2_with (refine ⟨trivial, ?_⟩; gi_at_call 14; refine (callsIn_wide.2 (althinglaw1_known.calls 20 true _ (known_tells 20 (by decide)))).mono ?_; rintro e w1 ⟨rfl, hb1⟩; obtain ⟨c4, f4⟩ := hend w1 hb1)
        have hR1 : Boxed w1 (w.heap.size + 1) 4 (.bool false) := (hb1.block _ hR'.lt).trans hR'
        have g1 := (KeepsOthers.setCell w1 ⟨w.heap.size + 1, 0, none⟩ (.bool true)).same D' _ ((hb1.block _ (Array.getElem?_eq_some_iff.1 hK2).1).trans hK2) rfl
        have g2 := (KeepsOthers.setCell w1 ⟨w.heap.size + 1, 0, none⟩ (.bool true)).same D _ ((hb1.block _ (Array.getElem?_eq_some_iff.1 hK1).1).trans hK1) rfl
        have g3 := (World.putObj_heap_other (o := .deferred none) (by omega : D ≠ D')).trans g2
        have r1 := boxed_putObj (boxed_putObj (hR1.set (.bool true)) (.deferred none) g1 rfl) (.deferred none) g3 rfl
        have r1' := r1.cell
        refine ⟨by simp, .inl ⟨_, _, rfl, run_takeDeferred g1, ?_⟩⟩
        refine ⟨by simp, .inl ⟨_, _, rfl, run_takeDeferred g3, ?_⟩⟩
        refine ⟨_, ?_, rfl, ?_⟩
        · simp [results, Try.f9, go_sem, r1']
        · exact (((hB'.trans (hb1.mono hB'.size)).setCell (p := ⟨w.heap.size + 1, 0, none⟩) (Nat.le_succ _) _).trans (belowK_b (w := w) (Nat.le_refl _) _ D' _ _ (by omega) g1 rfl rfl)).trans (belowK_b (w := w) (Nat.le_refl _) _ D _ _ (by omega) g3 rfl rfl)
set_option maxRecDepth 100000 in
set_option maxHeartbeats 2000000 in
theorem walk0 (n s : Int) (h : n < 0 ∨ 100 < n ∨ s < 1 ∨ 120 < s) (w : World) :
    Calls Try.prog 9 #[.int .i64 n, .int .i64 s] w fun e w' => e = .returned (.bool true) ∧ Below w.heap.size w w' := by
  have d : (decide (n < 0) = true) ∨ (decide (n < 0) = false ∧ decide (100 < n) = true) ∨ (decide (n < 0) = false ∧ decide (100 < n) = false ∧ decide (s < 1) = true) ∨ (decide (n < 0) = false ∧ decide (100 < n) = false ∧ decide (s < 1) = false ∧ decide (120 < s) = true) := by
    simp only [decide_eq_true_eq, decide_eq_false_iff_not]; omega
  refine (callsIn_wide (n := 6)).1 ?_
  refine callsIn_of_wp_marks Try.func9 rfl trivial ?_ rfl
  simp only [Try.ntmps9, List.size_toArray, List.length_cons, List.length_nil, Nat.reduceAdd, Nat.reduceSub, Array.replicate_succ, Array.replicate_zero, List.push_toArray, List.append_toArray, List.nil_append, List.cons_append]
  clear h
  rcases d with d1 | ⟨d1, d2⟩ | ⟨d1, d2, d3⟩ | ⟨d1, d2, d3, d4⟩
  all_goals gi_wp2
  all_goals (refine ⟨_, ?_, rfl, ((Below.refl _ w).alloc (Nat.le_refl _) _).alloc (by simp) _⟩; simp [results, Try.f9, go_sem, World.cell?_alloc_new])

theorem walks : Walks 9 Try.f9 := by
  intro H enc W base args ds ps hval hA _ _ _
  rw [Try.params9] at hA hval
  obtain ⟨v0, v1, d0, d1, p0, p1, rfl, rfl, rfl, h0, h1⟩ := trodAll_two hA
  obtain ⟨a0, rfl, rfl, rfl, _⟩ := open_int Try.underlying3 (hval 0 3 v0 rfl rfl) h0
  obtain ⟨a1, rfl, rfl, rfl, _⟩ := open_int Try.underlying3 (hval 1 3 v1 rfl rfl) h1
  by_cases h : a0 < 0 ∨ 100 < a0 ∨ a1 < 1 ∨ 120 < a1
  · exact walk0 a0 a1 h W
  · obtain ⟨n, rfl⟩ := Int.eq_ofNat_of_zero_le (by omega : 0 ≤ a0)
    obtain ⟨s, rfl⟩ := Int.eq_ofNat_of_zero_le (by omega : 0 ≤ a1)
    exact walk n s (by omega) (by omega) (by omega) W
set_option maxRecDepth 100000 in
theorem rowed (os : Os) (started : os.Started) (H : Type) (enc : TypeId × Value → H) :
    ReturnsInHanded {} Try.checked os 9 .any (Rows.compactStopsSpec.pre6 enc Try.prog Try.f9 Rows.compactStopsRow.domain false) (Rows.compactStopsSpec.post enc Try.prog Try.f9 false true false false) :=
  lifted (s := Rows.compactStopsSpec) Try.func9 (by kernel_rfl) (by kernel_rfl) (by kernel_rfl) (by kernel_rfl) rfl
    (fun H ds h => by
      have h' : ds.length = 2 := h
      match ds, h' with
      | [d1, d2], _ => rfl)
    os started H enc
    (ChangeSpec.witness6 (enc := enc) (C := Try.checked) false ⟨#[], #[.int .i64 0, .int .i64 0], []⟩ 8 (by kernel_rfl) (by kernel_rfl) (by kernel_rfl) (by kernel_rfl)) walks
theorem over : Rows.compactStopsRow.holds Try.pinned (OpenSpec.ofChange Rows.compactStopsSpec) :=
  OpenClaim.holds_of_wide 9 Try.f9 rfl rfl rfl rfl rfl rfl rfl ⟨rfl, rfl, rfl, rfl, rfl⟩ rfl rfl rfl rfl rfl (by kernel_rfl) Try.func9 (by kernel_rfl)
    (of_decide_eq_true (by kernel_rfl)) (by unfold Func.isWrapper; first | (rw [if_pos (by decide +kernel)]; kernel_rfl) | (rw [if_neg (by decide +kernel)]; exact ⟨rfl, rfl⟩))
    (fun os started H enc _ => rowed os started H enc)
end Go.Proofs.Ytdnfknphahmofaa.LawCompactStops
namespace Go.Proofs.Ytdnfknphahmofaa
/-- The row, under a short name, for the claim. -/
theorem compactStops_holds : Rows.CompactStopsSaid := LawCompactStops.over
end Go.Proofs.Ytdnfknphahmofaa

