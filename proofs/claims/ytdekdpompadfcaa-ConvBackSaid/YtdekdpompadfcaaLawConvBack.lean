/- ConvBack: what was added, taken off again, leaves what was; many are added one by one, in any order; for at most 60 tallies, each number up to 2^40. -/
import Derived.Test.YtdekdpompadfcaaFrame
import Derived.Test.YtdekdpompadfcaaOpens
import Derived.Test.YtdekdpompadfcaaPConvBackx3
import Derived.Test.YtdekdpompadfcaaBackPure
namespace Go.Proofs.Ytdekdpompadfcaa.LawConvBack
set_option linter.unusedSimpArgs false
set_option linter.unusedVariables false
open Go.ChangeShapes Go.WideShapes Go.ChangeAt Go.RowKit Go.Joins Go.Proofs.Ytdekdpompadfcaa.PConvBack Go.Proofs.Ytdekdpompadfcaa.Frame
open Go.Proofs.Ytdekdpompadfcaa.Opens Go.Proofs.YtdekdpompadfcaaW.PrintWords

theorem cells29 : Try.prog.cellsOf 29 = 3 := by kernel_rfl

theorem list_of {α : Type} {P : Nat → α → Prop} : ∀ (n : Nat), (∀ i, i < n → ∃ x, P i x) → ∃ l : List α, l.length = n ∧ ∀ i x, l[i]? = some x → P i x := by
  intro n
  induction n with
  | zero => intro _; exact ⟨[], rfl, fun i x h => by simp at h⟩
  | succ n ih =>
    intro h
    obtain ⟨l, hl, hp⟩ := ih (fun i hi => h i (by omega))
    obtain ⟨x, hx⟩ := h n (by omega)
    refine ⟨l ++ [x], by simp [hl], fun i y hy => ?_⟩
    rcases Nat.lt_or_ge i n with hi | hi
    · rw [List.getElem?_append_left (by omega)] at hy
      exact hp i y hy
    · rw [List.getElem?_append_right (by omega)] at hy
      have : i - l.length = 0 := by
        rcases Nat.eq_zero_or_pos (i - l.length) with h0 | h0
        · exact h0
        · rw [List.getElem?_eq_none (by simp; omega)] at hy; cases hy
      rw [this] at hy
      simp at hy
      obtain rfl : i = n := by omega
      exact hy ▸ hx

theorem walks : Walks 7 Try.f7 := by
  intro H enc W base args ds ps hval hA _ _ _
  rw [Try.params7] at hA hval
  obtain ⟨v0, v1, d0, d1, p0, p1, rfl, rfl, rfl, h0, h1⟩ := trodAll_two hA
  obtain ⟨c0, c1, c2, y0, y1, y2, m, rfl, rfl, rfl, hy0, hy1, hy2⟩ := open_agg3 Try.underlying29 (by kernel_rfl) cells29 (hval 0 29 v0 rfl rfl) h0
  obtain ⟨a0, e0, rfl, _⟩ := DataW.trod_int Try.underlying3 hy0
  obtain ⟨a1, e1, rfl, _⟩ := DataW.trod_int Try.underlying3 hy1
  obtain ⟨a2, e2, rfl, _⟩ := DataW.trod_int Try.underlying3 hy2
  simp at e0 e1 e2; subst e0 e1 e2
  obtain ⟨a, len, cap, rfl⟩ := okWide_slice Try.underlying34 (hval 1 34 v1 rfl rfl)
  obtain ⟨fuel, hf⟩ := h1
  have go : ∀ (l : List S29) (A : Option Addr) (c : Nat), Kd.C k29 W A l.length l → l.length ≤ c →
      Calls Try.prog 7 #[.agg #[.int .i64 a0, .int .i64 a1, .int .i64 a2], .slice A l.length c] W fun e w' => e = .returned (.bool true) ∧ Below W.heap.size W w' := by
    intro l A c hC hc
    exact althinglaw5_ConvBack.calls 200 a0 a1 a2 A c l true W hC hc (BackPure.pure ⟨a0, a1, a2⟩ l)
  rcases open_slice_fields Try.underlying34 Try.underlying29 (by kernel_rfl) (by kernel_rfl) hf with ⟨hcs, _⟩ | ⟨ad, len', cap', m', D, Pl, hcs, _, hl, hm, hmm, _, hi⟩
  · simp [Value.cells] at hcs
    obtain ⟨rfl, rfl, rfl⟩ := hcs
    exact go [] none 0 (Kd.C_nil _ _) (Nat.le_refl _)
  · simp [Value.cells] at hcs
    obtain ⟨rfl, rfl, rfl⟩ := hcs
    have hmle : len ≤ m' := by rw [hmm]; split <;> omega
    obtain ⟨l, hlen, hp⟩ := list_of (P := fun i (x : S29) => W.cell? (ad.add (i * 3 + 0)) = some (.int .i64 x.f0) ∧ W.cell? (ad.add (i * 3 + 1)) = some (.int .i64 x.f1) ∧ W.cell? (ad.add (i * 3 + 2)) = some (.int .i64 x.f2)) len (by
      intro i hlt
      obtain ⟨ys, n, _, _, _, hf⟩ := hi i (by omega)
      obtain ⟨z0, w0, k0, _, t0⟩ := hf 0 _ rfl
      obtain ⟨z1, w1, k1, _, t1⟩ := hf 1 _ rfl
      obtain ⟨z2, w2, k2, _, t2⟩ := hf 2 _ rfl
      obtain ⟨b0, e0, _, _⟩ := DataW.trod_int Try.underlying3 t0
      obtain ⟨b1, e1, _, _⟩ := DataW.trod_int Try.underlying3 t1
      obtain ⟨b2, e2, _, _⟩ := DataW.trod_int Try.underlying3 t2
      simp at e0 e1 e2; subst e0 e1 e2
      exact ⟨⟨b0, b1, b2⟩, k0, k1, k2⟩)
    subst hlen
    refine go l (some ad) cap ⟨rfl, by unfold maxLen at hm; omega, fun _ => ⟨ad, rfl, fun j p hj => ?_⟩⟩ hl
    obtain ⟨h0, h1, h2⟩ := hp j p hj
    refine ⟨_, rfl, k29_mk W p, fun i u hu => ?_⟩
    match i, hu with
    | 0, hu => simp at hu; subst hu; exact h0
    | 1, hu => simp at hu; subst hu; exact h1
    | 2, hu => simp at hu; subst hu; exact h2
    | i + 3, hu => simp at hu

set_option maxRecDepth 100000 in
theorem rowed (os : Os) (started : os.Started) (H : Type) (enc : TypeId × Value → H) :
    ReturnsInHanded {} Try.checked os 7 .any (Rows.convBackSpec.pre6 enc Try.prog Try.f7 Rows.convBackRow.domain false) (Rows.convBackSpec.post enc Try.prog Try.f7 false true false false) :=
  lifted (s := Rows.convBackSpec) Try.func7 (by kernel_rfl) (by kernel_rfl) (by kernel_rfl) (by kernel_rfl) rfl
    (fun H ds h => by
      have h' : ds.length = 2 := h
      match ds, h' with
      | [d1, d2], _ => rfl)
    os started H enc
    (ChangeSpec.witness6 (enc := enc) (C := Try.checked) false ⟨#[], #[.agg #[.int .i64 0, .int .i64 0, .int .i64 0], .slice none 0 0], []⟩ 8 (by kernel_rfl) (by kernel_rfl) (by kernel_rfl) (by kernel_rfl)) walks
theorem over : Rows.convBackRow.holds Try.pinned (OpenSpec.ofChange Rows.convBackSpec) :=
  OpenClaim.holds_of_wide 7 Try.f7 rfl rfl rfl rfl rfl rfl rfl ⟨rfl, rfl, rfl, rfl, rfl⟩ rfl rfl rfl rfl rfl (by kernel_rfl) Try.func7 (by kernel_rfl)
    (of_decide_eq_true (by kernel_rfl)) (by unfold Func.isWrapper; first | (rw [if_pos (by decide +kernel)]; kernel_rfl) | (rw [if_neg (by decide +kernel)]; exact ⟨rfl, rfl⟩))
    (fun os started H enc _ => rowed os started H enc)
end Go.Proofs.Ytdekdpompadfcaa.LawConvBack
namespace Go.Proofs.Ytdekdpompadfcaa
/-- The row, under a short name, for the claim. -/
theorem convBack_holds : Rows.ConvBackSaid := LawConvBack.over
end Go.Proofs.Ytdekdpompadfcaa
