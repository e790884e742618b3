/- CodeBounds: accounts, referenda, tracks and balances beyond their ends are refused. For every three numbers. -/
import Derived.Test.YtilckocpgififaaFrame
import Derived.Test.YtilckocpgififaaHKnown
namespace Go.Proofs.Ytilckocpgififaa.LawCodeBounds
set_option linter.unusedSimpArgs false
set_option linter.unusedVariables false
open Go.ChangeShapes Go.WideShapes Go.ChangeAt Go.RowKit Go.Proofs.Ytilckocpgififaa.G Go.Proofs.Ytilckocpgififaa.Frame Go.Proofs.YtilckocpgififaaW.PrintWords Go.Proofs.YtilckocpgififaaW.PrintMore

def x1 (a t n : Int) : Ext := { ext0 1 a with dest := t, amt := n }
def x5 (t : Int) : Ext := { ext0 5 1 with rfd := t }
def x11 (t : Int) : Ext := { ext0 11 1 with track := t }
theorem built_1 (a t n : Int) : Try.prog.built 33 [(0, .int .i64 1), (1, .int .i64 a), (2, .int .i64 t), (3, .int .i64 n)] = some ((x1 a t n).cells none 0).toArray := by kernel_rfl
theorem built_5 (t : Int) : Try.prog.built 33 [(0, .int .i64 5), (1, .int .i64 1), (4, .int .i64 t)] = some ((x5 t).cells none 0).toArray := by kernel_rfl
theorem built_11 (t : Int) : Try.prog.built 33 [(0, .int .i64 11), (1, .int .i64 1), (5, .int .i64 t)] = some ((x11 t).cells none 0).toArray := by kernel_rfl

theorem ext_of (x : Ext) (w : World) (hs : x.sum = zSum) (hc : x.call = z0) (hv : x.vkind = 0 ∧ x.vaye = false ∧ x.vlevel = 0 ∧ x.va = 0 ∧ x.vn = 0 ∧ x.vs = 0)
    (hN : ∀ w, Calls Try.prog 33 #[.agg (x.cells none 0).toArray] w fun e w' => e = .returned (.agg (x.cells none 0).toArray) ∧ Below w.heap.size w w') :
    Calls Try.prog 14 #[.agg (x.cells none 0).toArray] w fun e w' => e = .returned (.bool (okE x (true && sameX x x) false (okC 3 x.call.f0 x.call.f1 x.call.f2 x.call.f3))) ∧ Below w.heap.size w w' := by
  obtain ⟨v0, v1, v2, v3, v4, v5⟩ := hv
  have hl : x.sum.length = 32 := by rw [hs]; exact zsum_length
  have hf : x.call.f3 = [] := by rw [hc]; rfl
  have hC : Kd.C k25 w none x.call.f3.length x.call.f3 := by rw [hf]; exact Kd.C_nil _ _
  exact isExt_of x x none none 0 0 w hl hl hC (by rw [hf]; exact Nat.le_refl _) hC (by rw [hf]; exact Nat.le_refl _) hN 1 true (by rw [hc]; rfl) 40 false (by rw [v0, v1, v2, v3, v4, v5]; exact vote0)
theorem same_self (x : Ext) : sameX x x = true := by simp [sameX]

theorem k1 : inB 1 1 11 = true ∧ inB 5 1 11 = true ∧ inB 11 1 11 = true ∧ inB 1 0 9 = true ∧ inB 0 0 9 = true ∧ inB 0 0 11 = true ∧ inB 0 0 3 = true ∧ inB 0 0 6 = true ∧ inB 0 0 1073741824 = true := by decide
theorem ext1 (a t n : Int) (w : World) : Calls Try.prog 14 #[.agg ((x1 a t n).cells none 0).toArray] w fun e w' => e = .returned (.bool (inB a 0 9 && inB t 0 9 && inB n 0 1073741824)) ∧ Below w.heap.size w w' := by
  have h := ext_of (x1 a t n) w rfl rfl ⟨rfl, rfl, rfl, rfl, rfl, rfl⟩ (named_1 (x1 a t n) none 0 rfl zsum_length)
  rw [same_self] at h
  have e : okE (x1 a t n) (true && true) false (okC 3 (x1 a t n).call.f0 (x1 a t n).call.f1 (x1 a t n).call.f2 (x1 a t n).call.f3) = (inB a 0 9 && inB t 0 9 && inB n 0 1073741824) := by simp [okE, x1, ext0, k1]
  rw [e] at h; exact h
theorem ext5 (t : Int) (w : World) : Calls Try.prog 14 #[.agg ((x5 t).cells none 0).toArray] w fun e w' => e = .returned (.bool (inB t 0 11)) ∧ Below w.heap.size w w' := by
  have h := ext_of (x5 t) w rfl rfl ⟨rfl, rfl, rfl, rfl, rfl, rfl⟩ (named_5 (x5 t) none 0 rfl zsum_length)
  rw [same_self] at h
  have e : okE (x5 t) (true && true) false (okC 3 (x5 t).call.f0 (x5 t).call.f1 (x5 t).call.f2 (x5 t).call.f3) = inB t 0 11 := by simp [okE, x5, ext0, k1]
  rw [e] at h; exact h
theorem ext11 (t : Int) (w : World) : Calls Try.prog 14 #[.agg ((x11 t).cells none 0).toArray] w fun e w' => e = .returned (.bool (inB t 0 3)) ∧ Below w.heap.size w w' := by
  have h := ext_of (x11 t) w rfl rfl ⟨rfl, rfl, rfl, rfl, rfl, rfl⟩ (named_11 (x11 t) none 0 rfl zsum_length)
  rw [same_self] at h
  have e : okE (x11 t) (true && true) false (okC 3 (x11 t).call.f0 (x11 t).call.f1 (x11 t).call.f2 (x11 t).call.f3) = inB t 0 3 := by simp [okE, x11, ext0, k1]
  rw [e] at h; exact h
theorem spend (t n : Int) : code_IsCall.f 2 t n [] = some (inB t 0 9 && inB n 0 1073741824) := by
  simp [code_IsCall.f, code_isCall.f, okC, leafOk, inB]

set_option maxRecDepth 100000 in
set_option maxHeartbeats 16000000 in
theorem walk (a t n : Int) (w : World) : Calls Try.prog 5 #[.int .i64 a, .int .i64 t, .int .i64 n] w fun e w' => e = .returned (.bool true) ∧ Below w.heap.size w w' := by
  obtain ⟨X1, h1⟩ : ∃ X, X = ((x1 a t n).cells none 0).toArray := ⟨_, rfl⟩
  obtain ⟨X5, h5⟩ : ∃ X, X = ((x5 t).cells none 0).toArray := ⟨_, rfl⟩
  obtain ⟨X11, h11⟩ : ∃ X, X = ((x11 t).cells none 0).toArray := ⟨_, rfl⟩
  have b1 : ∀ w, (Instr.build 33 #[(0, .int .i64 1), (1, .int .i64 a), (2, .int .i64 t), (3, .int .i64 n)]).run Try.prog w = .ok (.agg X1) w := fun w => run_build w _ _ _ (by rw [h1]; exact built_1 a t n)
  have b5 : ∀ w, (Instr.build 33 #[(0, .int .i64 5), (1, .int .i64 1), (4, .int .i64 t)]).run Try.prog w = .ok (.agg X5) w := fun w => run_build w _ _ _ (by rw [h5]; exact built_5 t)
  have b11 : ∀ w, (Instr.build 33 #[(0, .int .i64 11), (1, .int .i64 1), (5, .int .i64 t)]).run Try.prog w = .ok (.agg X11) w := fun w => run_build w _ _ _ (by rw [h11]; exact built_11 t)
  have e1 := ext1 a t n
  have e5 := ext5 t
  have e11 := ext11 t
  rw [← h1] at e1
  rw [← h5] at e5
  rw [← h11] at e11
  obtain ⟨ra, hra⟩ : ∃ b, (inB a 0 9 && inB t 0 9 && inB n 0 1073741824) = b := ⟨_, rfl⟩
  obtain ⟨rb, hrb⟩ : ∃ b, inB t 0 11 = b := ⟨_, rfl⟩
  obtain ⟨rc, hrc⟩ : ∃ b, inB t 0 3 = b := ⟨_, rfl⟩
  obtain ⟨rd, hrd⟩ : ∃ b, (inB t 0 9 && inB n 0 1073741824) = b := ⟨_, rfl⟩
  have hsp := spend t n
  rw [hra] at e1
  rw [hrb] at e5
  rw [hrc] at e11
  rw [hrd] at hsp
  have H1 := Aside0.mk h1
  have H5 := Aside0.mk h5
  have H11 := Aside0.mk h11
  have E1 := Aside0.mk e1
  have E5 := Aside0.mk e5
  have E11 := Aside0.mk e11
  have HSP := Aside0.mk hsp
  have HA := Aside0.mk hra
  have HB := Aside0.mk hrb
  have HCC := Aside0.mk hrc
  have HD := Aside0.mk hrd
  clear h1 h5 h11 e1 e5 e11 hsp hra hrb hrc hrd
  go_enter Try.func5, Try.ntmps5
  go_upto_region 2 with (first
    | ((with_reducible refine gate_dst (N := 16) rfl ?_); refine Kd.event_run (v := .agg X1) (w1 := w) rfl (by first | (simp [execOp, b1, go_sem]; done) | (simp [execOp, b1, go_sem]; rw [H1.out]; rfl)) ?_)
    | (go_at_call 14; with_reducible refine (E1.out _).mono ?_; rintro e w1 ⟨rfl, hb1⟩; have HB1 := Aside0.mk hb1; clear hb1))
  go_upto_region 3 with (first
    | ((with_reducible refine gate_dst (N := 19) rfl ?_); refine Kd.event_run (v := .agg X5) (w1 := w1) rfl (by first | (simp [execOp, b5, go_sem]; done) | (simp [execOp, b5, go_sem]; rw [H5.out]; rfl)) ?_)
    | (go_at_call 14; with_reducible refine (E5.out _).mono ?_; rintro e w2 ⟨rfl, hb2⟩; have HB2 := Aside0.mk (below_step HB1.out hb2); clear hb2))
  go_upto_region 4 with (first
    | ((with_reducible refine gate_dst (N := 22) rfl ?_); refine Kd.event_run (v := .agg X11) (w1 := w2) rfl (by first | (simp [execOp, b11, go_sem]; done) | (simp [execOp, b11, go_sem]; rw [H11.out]; rfl)) ?_)
    | (go_at_call 14; with_reducible refine (E11.out _).mono ?_; rintro e w3 ⟨rfl, hb3⟩; have HB3 := Aside0.mk (below_step HB2.out hb3); clear hb3))
  go_upto_region 5 with (go_at_call 11; refine (code_IsCall.calls 2 t n none 0 [] rd _ (Kd.C_nil _ _) (Nat.le_refl _) HSP.out).mono ?_; rintro e w4 ⟨rfl, hb4⟩; have HB4 := Aside0.mk (below_step HB3.out hb4); clear hb4)
  clear b1 b5 b11
  have hA := HA.out
  have hB := HB.out
  have hC := HCC.out
  have hD := HD.out
  unfold inB at hA hB hC hD
  clear HA HB HCC HD
  rcases (by omega : a < 0 ∨ (0 ≤ a ∧ a < 10) ∨ (0 ≤ a ∧ ¬ a < 10)) with p | ⟨p, p'⟩ | ⟨p, p'⟩ <;>
  rcases (by omega : t < 0 ∨ (0 ≤ t ∧ t < 4) ∨ (4 ≤ t ∧ t < 10) ∨ (10 ≤ t ∧ t < 12) ∨ 12 ≤ t) with q | q | q | q | q <;>
  rcases (by omega : n < 0 ∨ (0 ≤ n ∧ n ≤ 1073741824) ∨ 1073741824 < n) with r | r | r <;>
  cases ra <;> cases rb <;> cases rc <;> cases rd
  all_goals first
    | (exfalso; simp only [Bool.and_eq_true, Bool.and_eq_false_iff, decide_eq_true_eq, decide_eq_false_iff_not] at hA hB hC hD; omega)
    | skip
  all_goals clear hA hB hC hD
  all_goals (
    go_wp2_with (go_at_call 10; with_reducible refine (known_calls _).mono ?_; rintro e w5 ⟨rfl, hb5⟩; have HB5 := Aside0.mk (below_step HB4.out hb5); clear hb5)
    go_ret
    exact ⟨by first | rfl | (simp; done) | (simp; omega) | (simp [*]; done) | (simp [*]; omega), HB5.out⟩)

set_option maxRecDepth 100000 in
theorem walks : Walks 5 Try.f5 := by
  intro H enc W base args ds ps hval hA _ _ _
  rw [Try.params5] at hA hval
  obtain ⟨v0, v1, v2, d0, d1, d2, p0, p1, p2, rfl, rfl, rfl, h0, h1, h2⟩ := trodAll_three hA
  obtain ⟨a0, rfl, rfl, rfl, _⟩ := open_int Try.underlying3 (hval 0 3 v0 rfl rfl) h0
  obtain ⟨a1, rfl, rfl, rfl, _⟩ := open_int Try.underlying3 (hval 1 3 v1 rfl rfl) h1
  obtain ⟨a2, rfl, rfl, rfl, _⟩ := open_int Try.underlying3 (hval 2 3 v2 rfl rfl) h2
  exact walk a0 a1 a2 W
set_option maxRecDepth 100000 in
theorem rowed (os : Os) (started : os.Started) (H : Type) (enc : TypeId × Value → H) :
    ReturnsInHanded {} Try.checked os 5 .any (Rows.codeBoundsSpec.pre6 enc Try.prog Try.f5 Rows.codeBoundsRow.domain false) (Rows.codeBoundsSpec.post enc Try.prog Try.f5 false true false false) :=
  lifted (s := Rows.codeBoundsSpec) Try.func5 (by kernel_rfl) (by kernel_rfl) (by kernel_rfl) (by kernel_rfl) rfl
    (fun H ds h => by
      have h' : ds.length = 3 := h
      match ds, h' with
      | [d1, d2, d3], _ => rfl)
    os started H enc
    (ChangeSpec.witness6 (enc := enc) (C := Try.checked) false ⟨#[], #[.int .i64 0, .int .i64 0, .int .i64 0], []⟩ 8 (by kernel_rfl) (by kernel_rfl) (by kernel_rfl) (by kernel_rfl)) walks
theorem over : Rows.codeBoundsRow.holds Try.pinned (OpenSpec.ofChange Rows.codeBoundsSpec) :=
  OpenClaim.holds_of_wide 5 Try.f5 rfl rfl rfl rfl rfl rfl rfl ⟨rfl, rfl, rfl, rfl, rfl⟩ rfl rfl rfl rfl rfl (by kernel_rfl) Try.func5 (by kernel_rfl)
    (of_decide_eq_true (by kernel_rfl)) (by unfold Func.isWrapper; first | (rw [if_pos (by decide +kernel)]; kernel_rfl) | (rw [if_neg (by decide +kernel)]; exact ⟨rfl, rfl⟩))
    (fun os started H enc _ => rowed os started H enc)
end Go.Proofs.Ytilckocpgififaa.LawCodeBounds
namespace Go.Proofs.Ytilckocpgififaa
/-- The row, under a short name, for the claim. -/
theorem codeBounds_holds : Rows.CodeBoundsSaid := LawCodeBounds.over
end Go.Proofs.Ytilckocpgififaa

