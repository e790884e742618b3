/- ChainNew: a chain is made where the document makes one. For every row of balances, for every row of tracks. -/
import Derived.Test.YtockdfnnhkhlkaaGreatCnZRefNewC
import Derived.Test.YtockdfnnhkhlkaaGreatCnZArgT
namespace Go.Proofs.YtockdfnnhkhlkaaGreat.LawChainNew
open Go.ChangeShapes Go.WideShapes Go.ChangeAt Go.RowKit Go.Shelf Go.Deep Go.Proofs.YtockdfnnhkhlkaaGreat.G Go.Proofs.YtockdfnnhkhlkaaGreat.Frame Go.Proofs.YtockdfnnhkhlkaaGreat.ArgT Go.Proofs.YtockdfnnhkhlkaaGreatW.PrintWords Go.Proofs.YtockdfnnhkhlkaaGreatW.PrintLast Go.Proofs.YtockdfnnhkhlkaaGreatW.PrintMore
set_option linter.unusedVariables false
set_option linter.unusedSimpArgs false

set_option maxHeartbeats 1000000 in
theorem now_calls (c : Nat) (w : World) (h : w.cell? ⟨c, 0, none⟩ = some (.int .i64 0)) : Calls Tryz.prog 6 #[.pointer (some ⟨c, 0, none⟩)] w fun e w' => e = .returned (.int .i64 0) ∧ w' = w := by
  go_enter Tryz.func6, Tryz.ntmps6
  go_wp2
  go_ret
  exact ⟨rfl, rfl⟩
set_option maxRecDepth 100000 in
set_option maxHeartbeats 8000000 in
theorem walk (A : Option Addr) (ca : Nat) (l : List Int) (B : Option Addr) (cb : Nat) (ts : List S84) (w : World) (hF : Kd.C (Kd.int .i64) w A l.length l) (hca : l.length ≤ ca) (hT : k84.C w B ts.length ts) :
    Calls Tryz.prog 3 #[.slice A l.length ca, .slice B ts.length cb] w fun e w' => e = .returned (.bool true) ∧ Below w.heap.size w w' := by
  have HF := Aside0.mk hF
  have HT := Aside0.mk hT
  have HCA := Aside0.mk hca
  clear hF hT hca
  by_cases h1 : 30 < l.length
  · have h1' : 30 < (l.length : Int) := by omega
    go_enter Tryz.func3, Tryz.ntmps3
    go_wp2
    go_ret
    exact ⟨rfl, Below.refl _ _⟩
  have h1' : ¬ 30 < (l.length : Int) := by omega
  by_cases h2 : 10 < ts.length
  · have h2' : 10 < (ts.length : Int) := by omega
    go_enter Tryz.func3, Tryz.ntmps3
    go_wp2
    go_ret
    exact ⟨rfl, Below.refl _ _⟩
  have h2' : ¬ 10 < (ts.length : Int) := by omega
  clear h1 h2
  by_cases hok : NewOk l ∧ GoodT ts
  · have HC : Aside0 (∀ W, Below w.heap.size w W → Calls Tryz.prog 4 #[.slice A l.length ca, .slice B ts.length cb] W fun e w' => (∃ c : Nat, e = .returned (.tuple #[.pointer (some ⟨c, 0, none⟩), .int .i64 0]) ∧ w'.cell? ⟨c, 0, none⟩ = some (.int .i64 0)) ∧ Below W.heap.size W w') := ⟨fun W hW => (chainNewG_calls A ca l B cb ts W (Kd.C_below HF.out hW) HCA.out (Kd.C_below HT.out hW)).mono (by
      rintro e w' ⟨⟨_, h⟩ | ⟨h, _⟩, hb⟩
      · exact ⟨h, hb⟩
      · exact absurd hok h)⟩
    have HR : Aside0 (∀ W, Below w.heap.size w W → Calls Tryz.prog 5 #[.slice A l.length ca, .slice B ts.length cb] W fun e w' => (∃ c : Nat, e = .returned (.tuple #[.pointer (some ⟨c, 0, none⟩), .int .i64 0])) ∧ Below W.heap.size W w') := ⟨fun W hW => (ref14New_calls A ca l B cb ts W (Kd.C_below HF.out hW) (Kd.C_below HT.out hW)).mono (by
      rintro e w' ⟨⟨_, h⟩ | ⟨h, _⟩, hb⟩
      · exact ⟨h, hb⟩
      · exact absurd hok h)⟩
    clear hok
    go_enter Tryz.func3, Tryz.ntmps3
    go_upto_region 3 with (fail)
    go_upto_region 4 with (go_at_call 4; go_loud (refine (HC.out _ (Below.refl _ _)).mono ?_; rintro e w1 ⟨⟨c, rfl, c0⟩, hb⟩; have B1 := Aside0.mk hb; clear hb))
    go_upto_region 5 with (go_at_call 5; go_loud (refine (HR.out _ B1.out).mono ?_; rintro e w2 ⟨⟨c2, rfl⟩, hb⟩; have C0 := Aside0.mk (cell_below c0 hb); have B2 := Aside0.mk (B1.out.trans (hb.mono B1.out.size)); clear hb))
    go_wp2_with (first
      | (go_at_call 6; go_loud (refine (now_calls c _ C0.out).mono ?_; rintro e w3 ⟨rfl, rfl⟩))
      | (go_at_call 7; go_loud (refine (known14_calls _).mono ?_; rintro e w4 ⟨rfl, hb⟩; have B4 := Aside0.mk (B2.out.trans (hb.mono B2.out.size)); clear hb)))
    go_ret
    exact ⟨rfl, B4.out⟩
  · have HC : Aside0 (∀ W, Below w.heap.size w W → Calls Tryz.prog 4 #[.slice A l.length ca, .slice B ts.length cb] W fun e w' => e = .returned (.tuple #[.pointer none, .int .i64 1]) ∧ Below W.heap.size W w') := ⟨fun W hW => (chainNewG_calls A ca l B cb ts W (Kd.C_below HF.out hW) HCA.out (Kd.C_below HT.out hW)).mono (by
      rintro e w' ⟨⟨h, _⟩ | ⟨_, h⟩, hb⟩
      · exact absurd h hok
      · exact ⟨h, hb⟩)⟩
    have HR : Aside0 (∀ W, Below w.heap.size w W → Calls Tryz.prog 5 #[.slice A l.length ca, .slice B ts.length cb] W fun e w' => e = .returned (.tuple #[.pointer none, .int .i64 1]) ∧ Below W.heap.size W w') := ⟨fun W hW => (ref14New_calls A ca l B cb ts W (Kd.C_below HF.out hW) (Kd.C_below HT.out hW)).mono (by
      rintro e w' ⟨⟨h, _⟩ | ⟨_, h⟩, hb⟩
      · exact absurd h hok
      · exact ⟨h, hb⟩)⟩
    clear hok
    go_enter Tryz.func3, Tryz.ntmps3
    go_upto_region 3 with (fail)
    go_upto_region 4 with (go_at_call 4; go_loud (refine (HC.out _ (Below.refl _ _)).mono ?_; rintro e w1 ⟨rfl, hb⟩; have B1 := Aside0.mk hb; clear hb))
    go_upto_region 5 with (go_at_call 5; go_loud (refine (HR.out _ B1.out).mono ?_; rintro e w2 ⟨rfl, hb⟩; have B2 := Aside0.mk (B1.out.trans (hb.mono B1.out.size)); clear hb))
    go_wp2_with (go_at_call 7; go_loud (refine (known14_calls _).mono ?_; rintro e w4 ⟨rfl, hb⟩; have B4 := Aside0.mk (B2.out.trans (hb.mono B2.out.size)); clear hb))
    go_ret
    exact ⟨rfl, B4.out⟩
set_option maxRecDepth 100000 in
set_option maxHeartbeats 4000000 in
theorem walks : Walks 3 Tryz.f3 := by
  intro H enc W base args ds ps hval hA _ _ _
  rw [Tryz.params3] at hA hval
  obtain ⟨v0, v1, d0, d1, p0, p1, rfl, rfl, rfl, h0, h1⟩ := trodAll_two hA
  obtain ⟨a0, n0, m0, rfl⟩ := okWide_slice Tryz.underlying22 (hval 0 22 v0 rfl rfl)
  obtain ⟨a1, n1, m1, rfl⟩ := okWide_slice Tryz.underlying23 (hval 1 23 v1 rfl rfl)
  obtain ⟨f0, g0⟩ := h0
  obtain ⟨f1, g1⟩ := h1
  obtain ⟨A0, c0, l, e0, hC0, hc0⟩ := open_kd (d := Kd.int .i64) Tryz.underlying22 (by kernel_rfl) (elem_int Tryz.underlying3) g0
  obtain ⟨A1, c1, ts, e1, hC1, hc1⟩ := open_kd (d := k84) Tryz.underlying23 (by kernel_rfl) elem_track g1
  simp only [Value.cells, List.cons.injEq, Value.slice.injEq, and_true] at e0 e1
  obtain ⟨rfl, rfl, rfl⟩ := e0
  obtain ⟨rfl, rfl, rfl⟩ := e1
  exact walk _ _ l _ _ ts W hC0 hc0 hC1
set_option maxRecDepth 100000 in
theorem rowed (os : Os) (started : os.Started) (H : Type) (enc : TypeId × Value → H) :
    ReturnsInHanded {} Tryz.checked os 3 .any (Rows.chainNewSpec.pre6 enc Tryz.prog Tryz.f3 Rows.chainNewRow.domain false) (Rows.chainNewSpec.post enc Tryz.prog Tryz.f3 false true false false) :=
  lifted (s := Rows.chainNewSpec) Tryz.func3 (by kernel_rfl) (by kernel_rfl) (by kernel_rfl) (by kernel_rfl) rfl
    (fun H ds h => by
      have h' : ds.length = 2 := h
      match ds, h' with
      | [d1, d2], _ => rfl)
    os started H enc
    (ChangeSpec.witness6 (enc := enc) (C := Tryz.checked) false ⟨#[], #[.slice none 0 0, .slice none 0 0], []⟩ 8 (by kernel_rfl) (by kernel_rfl) (by kernel_rfl) (by kernel_rfl)) walks
set_option maxRecDepth 100000 in
theorem fact0 : (Rows.chainNewRow.inPlace == Tryz.prog.inPlace 3) = true := by kernel_rfl
set_option maxRecDepth 100000 in
theorem fact1 : (Rows.chainNewRow.unfollowed == Tryz.prog.unfollowed 3) = true := by kernel_rfl
set_option maxRecDepth 100000 in
theorem fact2 : (Rows.chainNewRow.recurses == Tryz.prog.recurses 3) = true := by kernel_rfl
set_option maxRecDepth 100000 in
theorem fact3 : (Rows.chainNewRow.named == Tryz.prog.varsNamed 3) = true := by kernel_rfl
set_option maxRecDepth 100000 in
theorem closed : joinedFacts Tryz.prog 3 Tryz.f3 Rows.chainNewSpec Rows.chainNewRow = true := by
  unfold joinedFacts
  rw [fact0, fact1, fact2, fact3]
  kernel_rfl
theorem over : Rows.chainNewRow.holds Tryz.pinned (OpenSpec.ofChange Rows.chainNewSpec) :=
  OpenClaim.holds_of_wide 3 Tryz.f3 rfl rfl rfl rfl rfl rfl rfl ⟨rfl, rfl, rfl, rfl, rfl⟩ rfl rfl rfl rfl rfl (by kernel_rfl) Tryz.func3 closed
    (of_decide_eq_true (by kernel_rfl)) (by unfold Func.isWrapper; first | (rw [if_pos (by decide +kernel)]; kernel_rfl) | (rw [if_neg (by decide +kernel)]; exact ⟨rfl, rfl⟩))
    (fun os started H enc _ => rowed os started H enc)
end Go.Proofs.YtockdfnnhkhlkaaGreat.LawChainNew
namespace Go.Proofs.YtockdfnnhkhlkaaGreat
/-- The row, under a short name, for the claim. -/
theorem chainNew_holds : Rows.ChainNewSaid := LawChainNew.over
end Go.Proofs.YtockdfnnhkhlkaaGreat
