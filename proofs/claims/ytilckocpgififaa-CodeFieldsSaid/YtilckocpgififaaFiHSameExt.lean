import Derived.Test.YtilckocpgififaaFiHExt
/- code.SameExt's contract. -/
namespace Go.Proofs.Ytilckocpgififaa.G
open Go.Extern.Stop (cell)
open Go.RowKit Go.Proofs.YtilckocpgififaaW.PrintWords Go.Proofs.YtilckocpgififaaW.PrintLast Go.Proofs.YtilckocpgififaaW.PrintMore
set_option linter.unusedVariables false
set_option linter.unusedSimpArgs false

set_option maxRecDepth 100000 in
set_option maxHeartbeats 16000000 in
theorem code_SameExt.calls (f : Nat) (x y : Ext) (A B : Option Addr) (c d : Nat) (r : Bool) (w : World) (hx : x.sum.length = 32) (hy : y.sum.length = 32) (hC : Kd.C k25 w A x.call.f3.length x.call.f3) (hc : x.call.f3.length ≤ c) (hD : Kd.C k25 w B y.call.f3.length y.call.f3) (hd : y.call.f3.length ≤ d) (hr : sameF f x.call y.call = some r) :
    Calls Try.prog 24 #[.agg (x.cells A c).toArray, .agg (y.cells B d).toArray] w fun e w' => e = .returned (.bool (r && sameX x y)) ∧ Below w.heap.size w w' := by
  obtain ⟨X, hX⟩ : ∃ X, X = (x.cells A c).toArray := ⟨_, rfl⟩
  obtain ⟨Y, hY⟩ : ∃ Y, Y = (y.cells B d).toArray := ⟨_, rfl⟩
  rw [← hX, ← hY]
  have HX := Aside0.mk hX
  have HY := Aside0.mk hY
  have HC := Aside0.mk hC
  have HD := Aside0.mk hD
  have HR := Aside0.mk hr
  have Hx := Aside0.mk hx
  have Hy := Aside0.mk hy
  clear hX hY hC hD hr hx hy
  go_enter Try.func24, Try.ntmps24
  go_upto_region 1 with (first
    | ((with_reducible refine gate_dst (N := 2) rfl ?_); refine box_event ?hg (N := 2) ?hd (cs := X) (t := 33) ?hr ?_; (case hd => rfl); (case hg => rfl); (case hr => first | (go_simp; done) | (go_simp; rfl)); intro g1 hg1 w1 hbox1 hb1; have G1 := Aside0.mk hg1; have BX1 := Aside0.mk (rangeAt_box (HX.out ▸ hbox1)); have HXlt := Aside0.mk (blk_lt hbox1); have HB1 := Aside0.mk hb1; clear hg1 hbox1 hb1)
    | ((with_reducible refine gate_dst (N := 3) rfl ?_); refine box_event ?hg (N := 3) ?hd (cs := Y) (t := 33) ?hr ?_; (case hd => rfl); (case hg => rfl); (case hr => first | (go_simp; done) | (go_simp; rfl)); intro g2 hg2 w2 hbox2 hb2; have G2 := Aside0.mk hg2; have BY2 := Aside0.mk (rangeAt_box (HY.out ▸ hbox2)); have HYlt := Aside0.mk (blk_lt hbox2); have HB2 := Aside0.mk hb2; clear hg2 hbox2 hb2))
  have BX2 := Aside0.mk (rangeAt_below BX1.out HB2.out (by have := HB1.out.size; have := G1.out; have := HXlt.out; omega))
  obtain ⟨p0, p1, p2, p3⟩ := x.at_call A c Hx.out BX2.out
  obtain ⟨q0, q1, q2, q3⟩ := y.at_call B d Hy.out BY2.out
  have n1 : w2.heap.size ≠ g1 := by have := HB2.out.size; have := HXlt.out; omega
  have n2 : w2.heap.size + 1 ≠ g1 := by have := HB2.out.size; have := HXlt.out; omega
  have n3 : w2.heap.size ≠ g2 := by have := HYlt.out; omega
  have n4 : w2.heap.size + 1 ≠ g2 := by have := HYlt.out; omega
  go_region_held3 (fun w' => w'.cell? ⟨g1, 45, none⟩ = some (.int .i64 x.call.f0) ∧ w'.cell? ⟨g1, 46, none⟩ = some (.int .i64 x.call.f1) ∧ w'.cell? ⟨g1, 47, none⟩ = some (.int .i64 x.call.f2) ∧ w'.cell? ⟨g1, 48, none⟩ = some (.slice A x.call.f3.length c) ∧ w'.cell? ⟨g2, 45, none⟩ = some (.int .i64 y.call.f0) ∧ w'.cell? ⟨g2, 46, none⟩ = some (.int .i64 y.call.f1) ∧ w'.cell? ⟨g2, 47, none⟩ = some (.int .i64 y.call.f2) ∧ w'.cell? ⟨g2, 48, none⟩ = some (.slice B y.call.f3.length d)) (go_keep) (fail)
  all_goals clear p0 p1 p2 p3 q0 q1 q2 q3 n1 n2 n3 n4
  all_goals (rename_i hh_; clear hh_)
  all_goals have HB3 : Aside0 (∀ o1 o2, Below w2.heap.size w2 ((w2.alloc o1).alloc o2).drew) := ⟨fun o1 o2 => below_drew (((Below.refl _ w2).alloc (Nat.le_refl _) _).alloc (by simp) _)⟩
  all_goals have Heq := eql_sum x y Hx.out Hy.out
  all_goals (
    cases r with
    | false =>
      go_wp2_with (go_at_call 51; refine (code_SameCall.calls f x.call y.call A B c d false _ (Kd.C_below HC.out (below_step (below_step HB1.out HB2.out) (HB3.out _ _))) hc (Kd.C_below HD.out (below_step (below_step HB1.out HB2.out) (HB3.out _ _))) hd HR.out).mono ?_; rintro e w4 ⟨rfl, hb4⟩; have HB4 := Aside0.mk (below_step (below_step (below_step HB1.out HB2.out) (HB3.out _ _)) hb4))
      go_ret
      exact ⟨rfl, HB4.out⟩
    | true =>
      go_wp2_with (first
        | (go_at_call 51; refine (code_SameCall.calls f x.call y.call A B c d true _ (Kd.C_below HC.out (below_step (below_step HB1.out HB2.out) (HB3.out _ _))) hc (Kd.C_below HD.out (below_step (below_step HB1.out HB2.out) (HB3.out _ _))) hd HR.out).mono ?_; rintro e w4 ⟨rfl, hb4⟩; have HB4 := Aside0.mk (below_step (below_step (below_step HB1.out HB2.out) (HB3.out _ _)) hb4); have BX4 := rangeAt_below (rangeAt_below BX2.out (HB3.out _ _) (by have := HB2.out.size; have := HXlt.out; omega)) hb4 (by simp; have := HB2.out.size; have := HXlt.out; omega); have BY4 := rangeAt_below (rangeAt_below BY2.out (HB3.out _ _) HYlt.out) hb4 (by simp; have := HYlt.out; omega); obtain ⟨p0, p1, p2, p3, p4, p5, p6⟩ := x.at_head A c BX4; obtain ⟨q0, q1, q2, q3, q4, q5, q6⟩ := y.at_head B d BY4; obtain ⟨u0, u1, u2, u3, u4, u5⟩ := x.at_vote A c Hx.out BX4; obtain ⟨v0, v1, v2, v3, v4, v5⟩ := y.at_vote B d Hy.out BY4; have S4 := Aside0.mk (x.at_sum A c BX4); have T4 := Aside0.mk (y.at_sum B d BY4); clear BX4 BY4 hb4)
        | ((with_reducible refine gate_dst (N := 67) rfl ?_); (try (refine gate_guard (by rfl) ?_; dsimp only)); refine wpList_load_mid rfl 29 _ rfl g1 7 rfl (x.sum.map cell) _ S4.out Try.underlying29 rfl (by rw [List.length_map, Hx.out]; exact info_hash) ?_)
        | ((with_reducible refine gate_dst (N := 69) rfl ?_); (try (refine gate_guard (by rfl) ?_; dsimp only)); refine wpList_load_mid rfl 29 _ rfl g2 7 rfl (y.sum.map cell) _ T4.out Try.underlying29 rfl (by rw [List.length_map, Hy.out]; exact info_hash) ?_)
        | go_in)
      all_goals go_ret
      all_goals exact ⟨by simp [sameX, *], HB4.out⟩)
end Go.Proofs.Ytilckocpgififaa.G
