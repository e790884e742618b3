/- Whether two calls are one, as the reference tells it, plainly: the same as the code's. -/
import Derived.Test.YtilckocpgififaaBaHTaken
import Derived.Test.YtilckocpgififaaBaHSameCall
import Derived.Test.YtilckocpgififaaBaGx12
import Derived.Test.YtilckocpgififaaBaHIsExt
namespace Go.Proofs.Ytilckocpgififaa.G
open Go.RowKit Go.Shelf Go.Proofs.YtilckocpgififaaW.PrintWords Go.Proofs.YtilckocpgififaaW.PrintMore Go.Proofs.Ytilckocpgififaa.PNum
set_option linter.unusedVariables false
set_option linter.unusedSimpArgs false
def RSame (f K : Nat) (x y : S25) : Prop := ∃ r, sameF f x y = some r ∧ ∀ k, K ≤ k → althingref7_SameCall.f k x.f0 x.f1 x.f2 x.f3 y.f0 y.f1 y.f2 y.f3 = some r
theorem RSame.mono {f K K' : Nat} {x y : S25} (h : RSame f K x y) (hk : K ≤ K') : RSame f K' x y := by
  obtain ⟨r, h1, h2⟩ := h
  exact ⟨r, h1, fun k hk' => h2 k (by omega)⟩
theorem rsame_all (f : Nat) : ∀ (l m : List S25), l.length = m.length → (∀ x ∈ l, ∀ y, ∃ K, RSame f K x y) → ∃ K, ∀ j (h1 : j < l.length) (h2 : j < m.length), RSame f K l[j] m[j]
  | [], _, _, _ => ⟨0, fun j h1 _ => by cases h1⟩
  | x :: l, [], h, _ => by cases h
  | x :: l, y :: m, h, hx => by
    obtain ⟨K1, h1⟩ := hx x (by simp) y
    obtain ⟨K2, h2⟩ := rsame_all f l m (by simpa using h) (fun z hz => hx z (by simp [hz]))
    refine ⟨max K1 K2, fun j j1 j2 => ?_⟩
    cases j with
    | zero => exact h1.mono (by omega)
    | succ j => exact (h2 j (by simpa using j1) (by simpa using j2)).mono (by omega)
theorem rsame_loop (f K : Nat) (l m : List S25) (hl : l.length = m.length) (hmax : l.length ≤ 9223372036854775807) (hK : ∀ j (h1 : j < l.length) (h2 : j < m.length), RSame f K l[j] m[j]) (a b c a' b' c' : Int) (d : Nat) :
    ∀ (i : Nat), i + d = l.length → ∃ r, allM (sameF f) (l.drop i) (m.drop i) = some r ∧ ∀ k, K + d < k → althingref7_SameCall.l0 k i a b c l a' b' c' m = some r := by
  induction d with
  | zero =>
    intro i hi
    refine ⟨true, ?_, fun k hk => ?_⟩
    · rw [List.drop_eq_nil_of_le (by omega)]; rfl
    · obtain ⟨k, rfl⟩ : ∃ q, k = q + 1 := ⟨k - 1, by omega⟩
      rw [althingref7_SameCall.l0, if_neg (by omega)]
  | succ d ihd =>
    intro i hi
    have h1 : i < l.length := by omega
    have h2 : i < m.length := by omega
    obtain ⟨r0, s1, s2⟩ := hK i h1 h2
    obtain ⟨r1, t1, t2⟩ := ihd (i + 1) (by omega)
    have e1 : wrap64 ((i : Int) + 1) = ((i + 1 : Nat) : Int) := by rw [wrap_in (by omega) (by omega)]; omega
    have c1 : (i : Int) < (l.length : Int) := by omega
    have c2 : (0 : Int) ≤ (i : Int) := by omega
    have c3 : (i : Int) < (m.length : Int) := by omega
    have step : ∀ k, K + (d + 1) < k → althingref7_SameCall.l0 k i a b c l a' b' c' m = if r0 = true then some r1 else some false := by
      intro k hk
      obtain ⟨k, rfl⟩ : ∃ q, k = q + 1 := ⟨k - 1, by omega⟩
      rw [althingref7_SameCall.l0, if_pos c1, if_pos c2, if_pos c3, rd_natT l i h1, rd_natT m i h2, s2 k (by omega), Option.bind_some, e1, t2 k (by omega)]
    have hall : allM (sameF f) (l.drop i) (m.drop i) = if r0 = true then some r1 else some false := by
      rw [List.drop_eq_getElem_cons h1, List.drop_eq_getElem_cons h2, allM, s1, Option.bind_some, t1]
    cases r0 with
    | true => exact ⟨r1, by rw [hall, if_pos rfl], fun k hk => by rw [step k hk, if_pos rfl]⟩
    | false => exact ⟨false, by rw [hall, if_neg (by decide)], fun k hk => by rw [step k hk, if_neg (by decide)]⟩
theorem rsame : ∀ (f : Nat) (a b : S25), Fits f a → ∃ K, RSame f K a b
  | 0, _, _, h => h.elim
  | f + 1, a, b, ⟨hl, h⟩ => by
    by_cases he : a.f0 = b.f0 ∧ a.f1 = b.f1 ∧ a.f2 = b.f2 ∧ a.f3.length = b.f3.length
    · obtain ⟨e0, e1, e2, e3⟩ := he
      obtain ⟨K, hK⟩ := rsame_all f a.f3 b.f3 e3 (fun x hx y => rsame f x y (h x hx))
      obtain ⟨r, r1, r2⟩ := rsame_loop f K a.f3 b.f3 e3 hl hK a.f0 a.f1 a.f2 b.f0 b.f1 b.f2 a.f3.length 0 (by omega)
      refine ⟨K + a.f3.length + 5, r, ?_, fun k hk => ?_⟩
      · rw [sameF, if_pos ⟨e0, e1, e2, e3⟩]
        rwa [List.drop_zero, List.drop_zero] at r1
      · obtain ⟨k, rfl⟩ : ∃ q, k = q + 2 := ⟨k - 2, by omega⟩
        rw [althingref7_SameCall.f, if_pos e0, if_pos e1, if_pos e2, althingref7_SameCall.j0]
        have hb : ((a.f3.length : Int) != (b.f3.length : Int)) = false := by rw [e3]; simp
        rw [hb, if_neg (by decide)]
        exact r2 k (by omega)
    · refine ⟨5, false, by rw [sameF, if_neg he], fun k hk => ?_⟩
      obtain ⟨k, rfl⟩ : ∃ q, k = q + 2 := ⟨k - 2, by omega⟩
      have j : ∀ (p q r : Int) (l : List S25) (p' q' r' : Int) (l' : List S25), althingref7_SameCall.j0 (k + 1) true p q r l p' q' r' l' = some false := fun p q r l p' q' r' l' => by rw [althingref7_SameCall.j0, if_pos rfl]
      rw [althingref7_SameCall.f]
      by_cases e0 : a.f0 = b.f0
      · rw [if_pos e0]
        by_cases e1 : a.f1 = b.f1
        · rw [if_pos e1]
          by_cases e2 : a.f2 = b.f2
          · rw [if_pos e2]
            have e3 : ((a.f3.length : Int) != (b.f3.length : Int)) = true := by
              rw [bne_iff_ne]
              intro e
              exact he ⟨e0, e1, e2, by omega⟩
            rw [e3, j]
          · rw [if_neg e2, j]
        · rw [if_neg e1, j]
      · rw [if_neg e0, j]
/-- The reference's SameCall, whatever the code's tells. -/
theorem refSameCall_calls (f : Nat) (a b : S25) (A B : Option Addr) (c d : Nat) (r : Bool) (w : World) (hC : Kd.C k25 w A a.f3.length a.f3) (hc : a.f3.length ≤ c) (hD : Kd.C k25 w B b.f3.length b.f3) (hd : b.f3.length ≤ d) (hf : Fits f a) (h : sameF f a b = some r) :
    Calls Try.prog 26 #[.agg #[.int .i64 a.f0, .int .i64 a.f1, .int .i64 a.f2, .slice A a.f3.length c], .agg #[.int .i64 b.f0, .int .i64 b.f1, .int .i64 b.f2, .slice B b.f3.length d]] w fun e w' => e = .returned (.bool r) ∧ Below w.heap.size w w' := by
  obtain ⟨K, r', h1, h2⟩ := rsame f a b hf
  rw [h] at h1
  obtain rfl := Option.some.inj h1
  exact althingref7_SameCall.calls K _ _ _ A c _ _ _ _ B d _ r w hC hc hD hd (h2 K (Nat.le_refl _))
end Go.Proofs.Ytilckocpgififaa.G

/- The reference's SameExt: the same as the code's. -/
namespace Go.Proofs.Ytilckocpgififaa.G
open Go.Extern.Stop (cell)
open Go.RowKit Go.Proofs.YtilckocpgififaaW.PrintWords Go.Proofs.YtilckocpgififaaW.PrintLast Go.Proofs.YtilckocpgififaaW.PrintMore Go.Proofs.Ytilckocpgififaa.PNum
set_option linter.unusedVariables false
set_option linter.unusedSimpArgs false
set_option maxRecDepth 100000 in
set_option maxHeartbeats 16000000 in
theorem refSameExt_calls (f : Nat) (x y : Ext) (A B : Option Addr) (c d : Nat) (r : Bool) (w : World) (hx : x.sum.length = 32) (hy : y.sum.length = 32) (hC : Kd.C k25 w A x.call.f3.length x.call.f3) (hc : x.call.f3.length ≤ c) (hD : Kd.C k25 w B y.call.f3.length y.call.f3) (hd : y.call.f3.length ≤ d) (hf : Fits f x.call) (hr : sameF f x.call y.call = some r) :
    Calls Try.prog 23 #[.agg (x.cells A c).toArray, .agg (y.cells B d).toArray] w fun e w' => e = .returned (.bool (r && sameX x y)) ∧ Below w.heap.size w w' := by
  obtain ⟨X, hX⟩ : ∃ X, X = (x.cells A c).toArray := ⟨_, rfl⟩
  obtain ⟨Y, hY⟩ : ∃ Y, Y = (y.cells B d).toArray := ⟨_, rfl⟩
  rw [← hX, ← hY]
  have HX := Aside0.mk hX
  have HY := Aside0.mk hY
  have HS : Aside0 (∀ w', Below w.heap.size w w' → Calls Try.prog 26 #[.agg #[.int .i64 x.call.f0, .int .i64 x.call.f1, .int .i64 x.call.f2, .slice A x.call.f3.length c], .agg #[.int .i64 y.call.f0, .int .i64 y.call.f1, .int .i64 y.call.f2, .slice B y.call.f3.length d]] w' fun e w'' => e = .returned (.bool r) ∧ Below w'.heap.size w' w'') := ⟨fun w' hb => refSameCall_calls f x.call y.call A B c d r w' (Kd.C_below hC hb) hc (Kd.C_below hD hb) hd hf hr⟩
  have Hx := Aside0.mk hx
  have Hy := Aside0.mk hy
  clear hX hY hC hD hr hx hy hf hc hd
  have Heq := eql_sum x y Hx.out Hy.out
  go_enter Try.func23, Try.ntmps23
  go_upto_region 1 with (first
    | ((with_reducible refine gate_dst (N := 2) rfl ?_); refine box_event ?hg (N := 2) ?hd (cs := X) (t := 33) ?hr ?_; (case hd => rfl); (case hg => rfl); (case hr => first | (go_simp; done) | (go_simp; rfl)); intro g1 hg1 w1 hbox1 hb1; have G1 := Aside0.mk hg1; have BX1 := Aside0.mk (rangeAt_box (HX.out ▸ hbox1)); have HXlt := Aside0.mk (blk_lt hbox1); have HB1 := Aside0.mk hb1; clear hg1 hbox1 hb1)
    | ((with_reducible refine gate_dst (N := 3) rfl ?_); refine box_event ?hg (N := 3) ?hd (cs := Y) (t := 33) ?hr ?_; (case hd => rfl); (case hg => rfl); (case hr => first | (go_simp; done) | (go_simp; rfl)); intro g2 hg2 w2 hbox2 hb2; have G2 := Aside0.mk hg2; have BY2 := Aside0.mk (rangeAt_box (HY.out ▸ hbox2)); have HYlt := Aside0.mk (blk_lt hbox2); have HB2 := Aside0.mk hb2; clear hg2 hbox2 hb2))
  have BX4 := rangeAt_below BX1.out HB2.out (by have := HB1.out.size; have := G1.out; have := HXlt.out; omega)
  have HB := Aside0.mk (below_step HB1.out HB2.out)
  obtain ⟨p0, p1, p2, p3, p4, p5, p6⟩ := x.at_head A c BX4
  obtain ⟨q0, q1, q2, q3, q4, q5, q6⟩ := y.at_head B d BY2.out
  obtain ⟨u0, u1, u2, u3, u4, u5⟩ := x.at_vote A c Hx.out BX4
  obtain ⟨v0, v1, v2, v3, v4, v5⟩ := y.at_vote B d Hy.out BY2.out
  obtain ⟨c0, c1, c2, c3⟩ := x.at_call A c Hx.out BX4
  obtain ⟨d0, d1, d2, d3⟩ := y.at_call B d Hy.out BY2.out
  have S4 := Aside0.mk (x.at_sum A c BX4)
  have T4 := Aside0.mk (y.at_sum B d BY2.out)
  clear BX4
  go_wp2_with (first
    | ((with_reducible refine gate_dst (N := 54) rfl ?_); (try (refine gate_guard (by rfl) ?_; dsimp only)); refine wpList_load_mid rfl 29 _ rfl g1 7 rfl (x.sum.map cell) _ S4.out Try.underlying29 rfl (by rw [List.length_map, Hx.out]; exact info_hash) ?_)
    | ((with_reducible refine gate_dst (N := 56) rfl ?_); (try (refine gate_guard (by rfl) ?_; dsimp only)); refine wpList_load_mid rfl 29 _ rfl g2 7 rfl (y.sum.map cell) _ T4.out Try.underlying29 rfl (by rw [List.length_map, Hy.out]; exact info_hash) ?_)
    | (go_at_call 26; (with_reducible refine (HS.out _ HB.out).mono ?_); rintro e w4 ⟨rfl, hb4⟩; have HB4 := Aside0.mk (below_step HB.out hb4); clear hb4))
  all_goals go_ret
  all_goals first | exact ⟨by cases r <;> simp [sameX, *], HB4.out⟩ | exact ⟨by cases r <;> simp [sameX, *], HB.out⟩
end Go.Proofs.Ytilckocpgififaa.G
