import Derived.Test.YtilckocpgififaaFiHIsExtC
import Derived.Test.YtilckocpgififaaFiHNamedS
import Derived.Test.YtilckocpgififaaFiHRefIsExt
import Derived.Test.YtilckocpgififaaFiPCall
/- code.IsExt and the reference's IsExt, of every extrinsic: what they tell, and that it is one. -/
namespace Go.Proofs.Ytilckocpgififaa.G
open Go.Extern.Stop (cell)
open Go.RowKit Go.Proofs.YtilckocpgififaaW.PrintWords Go.Proofs.YtilckocpgififaaW.PrintLast Go.Proofs.YtilckocpgififaaW.PrintMore Go.Proofs.Ytilckocpgififaa.PNum
set_option linter.unusedVariables false
set_option linter.unusedSimpArgs false

/-! ### votes -/
def capOk (a n s : Int) : Bool := decide (0 ≤ a ∧ a ≤ 1073741824) && decide (0 ≤ n ∧ n ≤ 1073741824) && decide (0 ≤ s ∧ s ≤ 1073741824) && decide (a + n + s ≤ 1073741824)
def voteOk (x : Ext) : Bool := capOk x.va x.vn x.vs && (if x.vkind = 1 then inB x.vlevel 0 6 && decide (x.vn = 0) && decide (x.vs = 0) else if x.vkind = 2 then !x.vaye && decide (x.vlevel = 0) && decide (x.vs = 0) else if x.vkind = 3 then !x.vaye && decide (x.vlevel = 0) else false)
theorem cin_tells (a b c : Int) : conv_isIn.f a b c = some (inB a b c) := by
  unfold conv_isIn.f inB
  by_cases h : a ≥ b
  · rw [if_pos h]; congr 1; exact decide_eq_decide.2 ⟨fun q => ⟨h, q⟩, fun q => q.2⟩
  · rw [if_neg h]; congr 1; exact (decide_eq_false (fun q => h q.1)).symm
theorem rcin_tells (a b c : Int) : althingref5_in.f a b c = some (inB a b c) := cin_tells a b c
theorem cap_tells (a n s : Int) : conv_isCapital.f 40 [a, n, s] = some (capOk a n s) := by
  have w1 : wrap64 (0 + 1) = 1 := by unfold wrap64; omega
  have w2 : wrap64 (1 + 1) = 2 := by unfold wrap64; omega
  have w3 : wrap64 (2 + 1) = 3 := by unfold wrap64; omega
  have r0 : rd [a, n, s] 0 = a := rfl
  have r1 : rd [a, n, s] 1 = n := rfl
  have r2 : rd [a, n, s] 2 = s := rfl
  have l3 : (([a, n, s] : List Int).length : Int) = 3 := rfl
  unfold conv_isCapital.f capOk
  rw [l3, conv_isCapital.l0, if_pos (by decide), if_pos (by decide), l3, if_pos (by decide), r0, cin_tells, Option.bind_some]
  by_cases ha : 0 ≤ a ∧ a ≤ 1073741824
  · rw [show inB a 0 1073741824 = true from decide_eq_true ha, if_pos rfl, decide_eq_true ha, w1, conv_isCapital.l0, if_pos (by decide), if_pos (by decide), l3, if_pos (by decide), r1, cin_tells, Option.bind_some]
    by_cases hn : 0 ≤ n ∧ n ≤ 1073741824
    · rw [show inB n 0 1073741824 = true from decide_eq_true hn, if_pos rfl, decide_eq_true hn, w2, conv_isCapital.l0, if_pos (by decide), if_pos (by decide), l3, if_pos (by decide), r2, cin_tells, Option.bind_some]
      by_cases hs : 0 ≤ s ∧ s ≤ 1073741824
      · have e1 : wrap64 (0 + a) = a := by unfold wrap64; omega
        have e2 : wrap64 (a + n) = a + n := by unfold wrap64; omega
        have e3 : wrap64 (a + n + s) = a + n + s := by unfold wrap64; omega
        rw [show inB s 0 1073741824 = true from decide_eq_true hs, if_pos rfl, decide_eq_true hs, w3, conv_isCapital.l0, if_neg (by decide), e1, e2, e3]
        simp
      · rw [show inB s 0 1073741824 = false from decide_eq_false hs, if_neg (by decide), decide_eq_false hs]; simp
    · rw [show inB n 0 1073741824 = false from decide_eq_false hn, if_neg (by decide), decide_eq_false hn]; simp
  · rw [show inB a 0 1073741824 = false from decide_eq_false ha, if_neg (by decide), decide_eq_false ha]; simp
theorem beq_dec (a b : Int) : (a == b) = decide (a = b) := by
  by_cases h : a = b
  · rw [decide_eq_true h]; exact beq_iff_eq.2 h
  · rw [decide_eq_false h]; exact beq_eq_false_iff_ne.2 h
theorem conv_tells (x : Ext) : conv_Is.f 40 x.vkind x.vaye x.vlevel x.va x.vn x.vs = some (voteOk x) := by
  unfold conv_Is.f voteOk
  rw [cap_tells, Option.bind_some]
  by_cases hc : capOk x.va x.vn x.vs = true
  · rw [if_pos hc, hc]
    by_cases h1 : x.vkind = 1
    · rw [if_pos h1, if_pos h1, cin_tells, Option.bind_some]
      by_cases hl : inB x.vlevel 0 6 = true
      · rw [if_pos hl, hl]; by_cases hn : x.vn = 0 <;> simp [hn, beq_dec]
      · rw [if_neg hl]; simp [hl]
    · rw [if_neg h1, if_neg h1]
      by_cases h2 : x.vkind = 2
      · rw [if_pos h2, if_pos h2]
        cases hy : x.vaye <;> by_cases hl : x.vlevel = 0 <;> simp [hl, beq_dec]
      · rw [if_neg h2, if_neg h2]
        by_cases h3 : x.vkind = 3
        · rw [if_pos h3, if_pos h3]
          cases hy : x.vaye <;> simp [beq_dec]
        · rw [if_neg h3, if_neg h3]; rfl
  · rw [if_neg hc]; simp [hc]
theorem rconv_tells (x : Ext) : althingref5_Is.f 40 x.vkind x.vaye x.vlevel x.va x.vn x.vs = some (voteOk x) := by
  have hj : ∀ b : Bool, althingref5_Is.j0 40 b x.vkind x.vaye x.vlevel x.va x.vn x.vs = some (!b && (if x.vkind = 1 then inB x.vlevel 0 6 && decide (x.vn = 0) && decide (x.vs = 0) else if x.vkind = 2 then !x.vaye && decide (x.vlevel = 0) && decide (x.vs = 0) else if x.vkind = 3 then !x.vaye && decide (x.vlevel = 0) else false)) := fun b => by
    rw [althingref5_Is.j0]
    cases b
    · rw [if_neg (by decide)]
      by_cases h1 : x.vkind = 1
      · rw [if_pos h1, if_pos h1, rcin_tells, Option.bind_some]
        by_cases hl : inB x.vlevel 0 6 = true
        · rw [if_pos hl, hl]; by_cases hn : x.vn = 0 <;> simp [hn, beq_dec]
        · rw [if_neg hl]; simp [hl]
      · rw [if_neg h1, if_neg h1]
        by_cases h2 : x.vkind = 2
        · rw [if_pos h2, if_pos h2]
          cases hy : x.vaye <;> by_cases hl : x.vlevel = 0 <;> simp [hl, beq_dec]
        · rw [if_neg h2, if_neg h2]
          by_cases h3 : x.vkind = 3
          · rw [if_pos h3, if_pos h3]
            cases hy : x.vaye <;> simp [beq_dec]
          · rw [if_neg h3, if_neg h3]; rfl
    · rw [if_pos rfl]; rfl
  unfold althingref5_Is.f voteOk capOk
  rw [rcin_tells, Option.bind_some]
  by_cases ha : 0 ≤ x.va ∧ x.va ≤ 1073741824
  · rw [show inB x.va 0 1073741824 = true from decide_eq_true ha, if_pos rfl, rcin_tells, Option.bind_some, decide_eq_true ha]
    by_cases hn : 0 ≤ x.vn ∧ x.vn ≤ 1073741824
    · rw [show inB x.vn 0 1073741824 = true from decide_eq_true hn, if_pos rfl, rcin_tells, Option.bind_some, decide_eq_true hn]
      by_cases hs : 0 ≤ x.vs ∧ x.vs ≤ 1073741824
      · have e2 : wrap64 (x.va + x.vn) = x.va + x.vn := by unfold wrap64; omega
        have e3 : wrap64 (x.va + x.vn + x.vs) = x.va + x.vn + x.vs := by unfold wrap64; omega
        rw [show inB x.vs 0 1073741824 = true from decide_eq_true hs, if_pos rfl, decide_eq_true hs, e2, e3, hj]
        congr 2
        by_cases hb : x.va + x.vn + x.vs ≤ 1073741824
        · rw [decide_eq_true hb, decide_eq_false (by omega)]; rfl
        · rw [decide_eq_false hb, decide_eq_true (by omega)]; rfl
      · rw [show inB x.vs 0 1073741824 = false from decide_eq_false hs, if_neg (by decide), decide_eq_false hs, hj]; simp
    · rw [show inB x.vn 0 1073741824 = false from decide_eq_false hn, if_neg (by decide), decide_eq_false hn, hj]; simp
  · rw [show inB x.va 0 1073741824 = false from decide_eq_false ha, if_neg (by decide), decide_eq_false ha, hj]; simp

/-! ### the code's IsExt -/
/-- Is the call as named leaves it: any one where it is named, else none? -/
def callOk (x : Ext) : Bool := decide (x.kind = 2) || (decide (x.call.f0 = 0) && decide (x.call.f1 = 0) && decide (x.call.f2 = 0) && decide (x.call.f3.length = 0))
def isExtP (x : Ext) : Bool := okE x (callOk x && sameX (namedX x) x) (voteOk x) (okT 3 x.call)
theorem same_none (c : S25) : sameF 1 z0 c = some (decide (c.f0 = 0) && decide (c.f1 = 0) && decide (c.f2 = 0) && decide (c.f3.length = 0)) := by
  unfold sameF z0
  by_cases h : (0 : Int) = c.f0 ∧ (0 : Int) = c.f1 ∧ (0 : Int) = c.f2 ∧ ([] : List S25).length = c.f3.length
  · rw [if_pos h]
    obtain ⟨h0, h1, h2, h3⟩ := h
    rw [decide_eq_true h0.symm, decide_eq_true h1.symm, decide_eq_true h2.symm, decide_eq_true (show c.f3.length = 0 from h3.symm)]
    cases c.f3 <;> rfl
  · rw [if_neg h]
    congr 1; symm
    simp only [Bool.and_eq_false_iff, decide_eq_false_iff_not]
    simp only [List.length_nil] at h
    omega
theorem allM_self {p : S25 → S25 → Option Bool} : ∀ (l : List S25), (∀ x ∈ l, p x x = some true) → allM p l l = some true
  | [], _ => rfl
  | x :: l, h => by
    rw [allM, h x List.mem_cons_self, Option.bind_some, if_pos rfl]
    exact allM_self l (fun y hy => h y (List.mem_cons_of_mem _ hy))
theorem same_self_F : ∀ (f : Nat) (c : S25), Fits f c → sameF f c c = some true
  | 0, _, h => h.elim
  | f + 1, c, h => by
    rw [sameF, if_pos ⟨rfl, rfl, rfl, rfl⟩]
    exact allM_self _ (fun x hx => same_self_F f x (h.2 x hx))
def namedA (x : Ext) (A : Option Addr) : Option Addr := if x.kind = 2 then A else none
def namedC (x : Ext) (c : Nat) : Nat := if x.kind = 2 then c else 0
theorem named_calls (x : Ext) (A : Option Addr) (c : Nat) (hx : x.sum.length = 32) (w : World) :
    Calls Try.prog 33 #[.agg (x.cells A c).toArray] w fun e w' => e = .returned (.agg ((namedX x).cells (namedA x A) (namedC x c)).toArray) ∧ Below w.heap.size w w' := by
  by_cases hr : 1 ≤ x.kind ∧ x.kind ≤ 11
  · have hk : x.kind = 1 ∨ x.kind = 2 ∨ x.kind = 3 ∨ x.kind = 4 ∨ x.kind = 5 ∨ x.kind = 6 ∨ x.kind = 7 ∨ x.kind = 8 ∨ x.kind = 9 ∨ x.kind = 10 ∨ x.kind = 11 := by omega
    rcases hk with h | h | h | h | h | h | h | h | h | h | h
    all_goals simp only [namedA, namedC, namedX, h]
    · exact named_1 x A c h hx w
    · exact named_2 x A c h hx w
    · exact named_3 x A c h hx w
    · exact named_4 x A c h hx w
    · exact named_5 x A c h hx w
    · exact named_6 x A c h hx w
    · exact named_7 x A c h hx w
    · exact named_8 x A c h hx w
    · exact named_9 x A c h hx w
    · exact named_10 x A c h hx w
    · exact named_11 x A c h hx w
  · have h2 : ¬ x.kind = 2 := by omega
    unfold namedA namedC namedX
    rw [if_neg h2, if_neg h2, if_neg (by omega), if_neg h2, if_neg (by omega), if_neg (by omega), if_neg (by omega), if_neg (by omega), if_neg (by omega), if_neg (by omega)]
    exact named_no x A c hr hx w
theorem namedX_sum (x : Ext) (hx : x.sum.length = 32) : (namedX x).sum.length = 32 := by
  unfold namedX
  split
  · exact zs_length
  · split
    · exact zs_length
    · split
      · exact hx
      · split
        · exact hx
        · repeat' split
          all_goals exact zs_length
theorem namedX_call (x : Ext) : (namedX x).call = if x.kind = 2 then x.call else z0 := by
  by_cases h2 : x.kind = 2
  · rw [if_pos h2]; unfold namedX; rw [if_neg (by omega), if_pos h2]
  · rw [if_neg h2]; unfold namedX
    repeat' split
    all_goals first | rfl | (exfalso; exact h2 (by assumption))
theorem code_IsExt.all (x : Ext) (A : Option Addr) (c : Nat) (w : World) (hx : x.sum.length = 32) (hC : Kd.C k25 w A x.call.f3.length x.call.f3) (hc : x.call.f3.length ≤ c) :
    Calls Try.prog 14 #[.agg (x.cells A c).toArray] w fun e w' => e = .returned (.bool (isExtP x)) ∧ Below w.heap.size w w' := by
  have hcall := namedX_call x
  have hsum := namedX_sum x hx
  have hN := named_calls x A c hx
  by_cases h2 : x.kind = 2
  · rw [if_pos h2] at hcall
    rw [show namedA x A = A from if_pos h2, show namedC x c = c from if_pos h2] at hN
    obtain ⟨f, hf⟩ := fits_kids w x.call A hC
    have := isExt_of x (namedX x) A A c c w hx hsum hC hc (by rw [hcall]; exact hC) (by rw [hcall]; exact hc) hN f true (by rw [hcall]; exact same_self_F f _ hf) 40 (voteOk x) (conv_tells x)
    have e : callOk x = true := by unfold callOk; rw [decide_eq_true h2]; rfl
    unfold isExtP
    rw [e]
    exact this
  · rw [if_neg h2] at hcall
    rw [show namedA x A = none from if_neg h2, show namedC x c = 0 from if_neg h2] at hN
    have := isExt_of x (namedX x) A none c 0 w hx hsum hC hc (by rw [hcall]; exact Kd.C_nil _ _) (by rw [hcall]; exact Nat.le_refl _) hN 1 _ (by rw [hcall]; exact same_none _) 40 (voteOk x) (conv_tells x)
    have e : callOk x = (decide (x.call.f0 = 0) && decide (x.call.f1 = 0) && decide (x.call.f2 = 0) && decide (x.call.f3.length = 0)) := by unfold callOk; rw [decide_eq_false h2]; rfl
    unfold isExtP
    rw [e]
    exact this

/-! ### the reference's IsExt -/
theorem names_tells (k : Int) (hk : 1 ≤ k ∧ k ≤ 11) : althingref7_names.f 40 k 84 = some (decide (k = 1 ∨ k = 9)) ∧ althingref7_names.f 40 k 78 = some (decide (k = 1 ∨ k = 4 ∨ k = 9)) ∧ althingref7_names.f 40 k 82 = some (decide (k = 5 ∨ k = 6 ∨ k = 7 ∨ k = 8)) ∧
    althingref7_names.f 40 k 75 = some (decide (k = 4 ∨ k = 9 ∨ k = 10 ∨ k = 11)) ∧ althingref7_names.f 40 k 76 = some (decide (k = 9)) ∧ althingref7_names.f 40 k 83 = some (decide (k = 3 ∨ k = 4)) ∧ althingref7_names.f 40 k 86 = some (decide (k = 7)) ∧ althingref7_names.f 40 k 67 = some (decide (k = 2)) := by
  have h : k = 1 ∨ k = 2 ∨ k = 3 ∨ k = 4 ∨ k = 5 ∨ k = 6 ∨ k = 7 ∨ k = 8 ∨ k = 9 ∨ k = 10 ∨ k = 11 := by omega
  rcases h with h | h | h | h | h | h | h | h | h | h | h <;> subst h <;> decide +kernel
theorem num_tells (k ch n m : Int) (b : Bool) (h : althingref7_names.f 40 k ch = some b) : althingref7_num.f 40 k ch n m = some (if b = true then inB n 0 m else decide (n = 0)) := by
  unfold althingref7_num.f
  rw [h, Option.bind_some]
  cases b
  · rw [if_neg (by decide), if_neg (by decide), beq_dec]
  · rw [if_pos rfl, if_pos rfl, rin_tells]; rfl
def zeroCall (x : Ext) : Bool := decide (x.call.f0 = 0) && decide (x.call.f1 = 0) && decide (x.call.f2 = 0) && decide (x.call.f3.length = 0)
def numP (b : Bool) (n m : Int) : Bool := if b = true then inB n 0 m else decide (n = 0)
def refP (x : Ext) : Bool := inB x.kind 1 11 && inB x.who 0 9 && refE (numP (decide (x.kind = 1 ∨ x.kind = 9)) x.dest 9) (numP (decide (x.kind = 1 ∨ x.kind = 4 ∨ x.kind = 9)) x.amt (if x.kind = 4 then 1000 else 1073741824)) (numP (decide (x.kind = 5 ∨ x.kind = 6 ∨ x.kind = 7 ∨ x.kind = 8)) x.rfd 11)
  (numP (decide (x.kind = 4 ∨ x.kind = 9 ∨ x.kind = 10 ∨ x.kind = 11)) x.track 3) (numP (decide (x.kind = 9)) x.level 6) (decide (x.kind = 3 ∨ x.kind = 4)) (!(x.sum == zSum)) (decide (x.kind = 7)) (decide (x.vkind ≠ 0)) (voteOk x)
  (!decide (x.vkind = 0 ∧ x.vaye = false ∧ x.vlevel = 0 ∧ x.va = 0 ∧ x.vn = 0 ∧ x.vs = 0)) (decide (x.kind = 2)) (okT 3 x.call) (zeroCall x)
theorem voteOk_zero (x : Ext) (h : x.vkind = 0) : voteOk x = false := by
  unfold voteOk; rw [if_neg (by omega), if_neg (by omega), if_neg (by omega), Bool.and_false]
set_option maxHeartbeats 4000000 in
theorem ref_is (x : Ext) : refP x = isExtP x := by
  unfold refP isExtP okE
  by_cases hk : 1 ≤ x.kind ∧ x.kind ≤ 11
  · rw [show inB x.kind 1 11 = true from decide_eq_true hk, Bool.true_and, Bool.true_and]
    have h : x.kind = 1 ∨ x.kind = 2 ∨ x.kind = 3 ∨ x.kind = 4 ∨ x.kind = 5 ∨ x.kind = 6 ∨ x.kind = 7 ∨ x.kind = 8 ∨ x.kind = 9 ∨ x.kind = 10 ∨ x.kind = 11 := by omega
    have hv := voteOk_zero x
    generalize voteOk x = vo at hv ⊢
    generalize okT 3 x.call = co
    rcases h with h | h | h | h | h | h | h | h | h | h | h <;> rw [Bool.eq_iff_iff] <;> simp [refE, numP, inB, callOk, zeroCall, namedX, ext0, sameX, h] <;> grind
  · rw [show inB x.kind 1 11 = false from decide_eq_false hk]; simp

set_option maxRecDepth 100000 in
set_option maxHeartbeats 16000000 in
theorem refIsExt_out (x : Ext) (A : Option Addr) (c : Nat) (w : World) (hx : x.sum.length = 32) (bk bw : Bool) (hk : inB x.kind 1 11 = bk) (hw : inB x.who 0 9 = bw) (hb : (bk && bw) = false) :
    Calls Try.prog 13 #[.agg (x.cells A c).toArray] w fun e w' => e = .returned (.bool false) ∧ Below w.heap.size w w' := by
  obtain ⟨L, hL⟩ : ∃ L, L = x.cells A c := ⟨_, rfl⟩
  have EK : Aside0 (althingref7_in.f x.kind 1 11 = some bk) := ⟨by rw [rin_tells, ← hk]; rfl⟩
  have EW : Aside0 (althingref7_in.f x.who 0 9 = some bw) := ⟨by rw [rin_tells, ← hw]; rfl⟩
  have HL := Aside0.mk hL
  rw [← hL]
  clear hL hk hw
  cases bk with
  | false =>
    go_enter Try.func13, Try.ntmps13
    go_upto_region 1 with (first
      | ((with_reducible refine gate_dst (N := 1) rfl ?_); refine box_event ?hg (N := 1) ?hd (cs := L.toArray) (t := 33) ?hr ?_; (case hd => rfl); (case hg => rfl); (case hr => first | (go_simp; done) | (go_simp; rfl)); intro g1 hg1 w1 hbox1 hb1; have hR0 := rangeAt_box hbox1; have HB1 := Aside0.mk hb1; clear hg1 hbox1 hb1))
    obtain ⟨c0, c1, c2, c3, c4, c5, c6⟩ := x.at_head A c (HL.out ▸ hR0)
    go_wp2_with (go_at_call 28; with_reducible refine (althingref7_in.calls _ _ _ _ _ EK.out).mono ?_; rintro e u0 ⟨rfl, hd_⟩; have HB2 := Aside0.mk (below_step HB1.out hd_.below); clear hd_)
    all_goals go_ret
    all_goals exact ⟨rfl, HB2.out⟩
  | true =>
    cases bw with
    | true => cases hb
    | false =>
      go_enter Try.func13, Try.ntmps13
      go_upto_region 1 with (first
        | ((with_reducible refine gate_dst (N := 1) rfl ?_); refine box_event ?hg (N := 1) ?hd (cs := L.toArray) (t := 33) ?hr ?_; (case hd => rfl); (case hg => rfl); (case hr => first | (go_simp; done) | (go_simp; rfl)); intro g1 hg1 w1 hbox1 hb1; have hR0 := rangeAt_box hbox1; have hZ0 := blk_lt hbox1; have HB1 := Aside0.mk hb1; clear hg1 hbox1 hb1))
      obtain ⟨c0, c1, c2, c3, c4, c5, c6⟩ := x.at_head A c (HL.out ▸ hR0)
      go_wp2_with (first
        | (go_at_call 28; with_reducible refine (althingref7_in.calls _ _ _ _ _ EK.out).mono ?_; rintro e u0 ⟨rfl, hd_⟩; have HB2 := Aside0.mk (below_step HB1.out hd_.below); obtain ⟨c0, c1, c2, c3, c4, c5, c6⟩ := x.at_head A c (HL.out ▸ (rangeAt_below hR0 hd_.below hZ0)); clear hd_)
        | (go_at_call 28; with_reducible refine (althingref7_in.calls _ _ _ _ _ EW.out).mono ?_; rintro e u1 ⟨rfl, hd_⟩; have HB3 := Aside0.mk (below_step HB2.out hd_.below); clear hd_))
      all_goals go_ret
      all_goals exact ⟨rfl, HB3.out⟩
theorem althingref7_IsExt.all (x : Ext) (A : Option Addr) (c : Nat) (w : World) (hx : x.sum.length = 32) (hC : Kd.C k25 w A x.call.f3.length x.call.f3) (hc : x.call.f3.length ≤ c) :
    Calls Try.prog 13 #[.agg (x.cells A c).toArray] w fun e w' => e = .returned (.bool (isExtP x)) ∧ Below w.heap.size w w' := by
  rw [← ref_is]
  by_cases hk : 1 ≤ x.kind ∧ x.kind ≤ 11
  · by_cases hw : 0 ≤ x.who ∧ x.who ≤ 9
    · obtain ⟨nT, nN, nR, nK, nL, nS, nV, nC⟩ := names_tells x.kind hk
      have := refIsExt_walk x A c w hx hC hc hk hw _ rfl _ _ _ _ _ _ _ _ _ _ _ _ (num_tells _ _ _ _ _ nT) (num_tells _ _ _ _ _ nN) (num_tells _ _ _ _ _ nR) (num_tells _ _ _ _ _ nK) (num_tells _ _ _ _ _ nL) nS rfl nV (rconv_tells x) rfl nC (risCall_tells x.call 40 (by omega))
      have e1 : inB x.kind 1 11 = true := decide_eq_true hk
      have e2 : inB x.who 0 9 = true := decide_eq_true hw
      unfold refP
      rw [e1, e2]
      exact this
    · have e2 : inB x.who 0 9 = false := decide_eq_false hw
      have := refIsExt_out x A c w hx _ _ rfl e2 (Bool.and_false _)
      unfold refP
      rw [e2, Bool.and_false, Bool.false_and]
      exact this
  · have e1 : inB x.kind 1 11 = false := decide_eq_false hk
    have := refIsExt_out x A c w hx _ _ e1 rfl (Bool.false_and _)
    unfold refP
    rw [e1, Bool.false_and, Bool.false_and]
    exact this
end Go.Proofs.Ytilckocpgififaa.G
