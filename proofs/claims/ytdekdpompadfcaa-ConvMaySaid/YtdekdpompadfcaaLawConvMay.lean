/- ConvMay: conv.Is answers as the document's reference for every vote; of one that may be, what is lent up to 2^40, its capital and its gain do too. -/
import Derived.Test.YtdekdpompadfcaaFrame
import Derived.Test.YtdekdpompadfcaaOpens
import Derived.Test.YtdekdpompadfcaaPConvMayx5
namespace Go.Proofs.Ytdekdpompadfcaa.LawConvMay
set_option linter.unusedSimpArgs false
set_option linter.unusedVariables false
open Go.ChangeShapes Go.WideShapes Go.ChangeAt Go.RowKit Go.Joins Go.Proofs.Ytdekdpompadfcaa.PConvMay Go.Proofs.Ytdekdpompadfcaa.Frame
open Go.Proofs.Ytdekdpompadfcaa.Opens Go.Proofs.YtdekdpompadfcaaW.PrintWords

theorem in_tells (a b : Int) : althinglaw5_in.f a b = some (decide (0 ≤ a ∧ a ≤ b)) := by
  unfold althinglaw5_in.f; by_cases h : 0 ≤ a <;> simp [h]
theorem rin_tells (a l b : Int) : althingref5_in.f a l b = some (decide (l ≤ a ∧ a ≤ b)) := by
  unfold althingref5_in.f; by_cases h : l ≤ a <;> simp [h]
theorem isIn_tells (a l b : Int) : conv_isIn.f a l b = some (decide (l ≤ a ∧ a ≤ b)) := by
  unfold conv_isIn.f; by_cases h : l ≤ a <;> simp [h]
theorem known_tells : althinglaw5_known.f = some true := by decide +kernel
theorem votes_some (n l : Int) : ∃ r, conv_Votes.f n l = some r ∧ althingref5_Votes.f n l = some r := by
  unfold conv_Votes.f althingref5_Votes.f
  split <;> exact ⟨_, rfl, rfl⟩
theorem wrap_in {a : Int} (h : 0 ≤ a ∧ a ≤ 4294967296) : wrap64 a = a := by unfold wrap64; omega

def sums (a n s : Int) : Bool := decide ((0 ≤ a ∧ a ≤ 1073741824) ∧ (0 ≤ n ∧ n ≤ 1073741824) ∧ (0 ≤ s ∧ s ≤ 1073741824) ∧ a + n + s ≤ 1073741824)
def kinds (kind : Int) (aye : Bool) (level n s : Int) : Bool :=
  if kind = 1 then decide (0 ≤ level ∧ level ≤ 6) && (n == 0 && s == 0) else if kind = 2 then !aye && (level == 0 && s == 0) else if kind = 3 then !aye && level == 0 else false

theorem capital_tells (k : Nat) (a n s : Int) : conv_isCapital.f (k + 4) [a, n, s] = some (sums a n s) := by
  have i1 : wrap64 (0 + 1) = 1 := by decide +kernel
  have i2 : wrap64 (1 + 1) = 2 := by decide +kernel
  have i3 : wrap64 (2 + 1) = 3 := by decide +kernel
  have r0 : rd [a, n, s] 0 = a := rfl
  have r1 : rd [a, n, s] 1 = n := rfl
  have r2 : rd [a, n, s] 2 = s := rfl
  unfold conv_isCapital.f sums
  simp only [conv_isCapital.l0, List.length_cons, List.length_nil, isIn_tells, Option.bind_some, i1, i2, i3, r0, r1, r2]
  by_cases ha : 0 ≤ a ∧ a ≤ 1073741824
  · by_cases hn : 0 ≤ n ∧ n ≤ 1073741824
    · by_cases hs : 0 ≤ s ∧ s ≤ 1073741824
      · have w1 : wrap64 (0 + a) = a := by rw [wrap_in (by omega)]; omega
        have w2 : wrap64 (a + n) = a + n := wrap_in (by omega)
        have w3 : wrap64 (a + n + s) = a + n + s := wrap_in (by omega)
        simp [ha, hn, hs, w1, w2, w3]
        have w1' : wrap64 a = a := wrap_in (by omega)
        simp [w1', w2, w3]
      · simp [ha, hn, hs]
    · simp [ha, hn]
  · simp [ha]

theorem is_tells (k : Nat) (kind : Int) (aye : Bool) (level a n s : Int) : conv_Is.f (k + 4) kind aye level a n s = some (sums a n s && kinds kind aye level n s) := by
  unfold conv_Is.f
  rw [capital_tells]
  simp only [Option.bind_some, isIn_tells]
  cases sums a n s
  · simp
  · unfold kinds
    by_cases k1 : kind = 1
    · subst k1
      by_cases hl : 0 ≤ level ∧ level ≤ 6 <;> by_cases hn : n = 0 <;> simp [hl, hn]
    · by_cases k2 : kind = 2
      · subst k2
        cases aye <;> by_cases hl : level = 0 <;> simp [hl]
      · by_cases k3 : kind = 3
        · subst k3
          cases aye <;> simp
        · simp [k1, k2, k3]

theorem ref_tells (k : Nat) (kind : Int) (aye : Bool) (level a n s : Int) : althingref5_Is.f (k + 1) kind aye level a n s = some (sums a n s && kinds kind aye level n s) := by
  unfold althingref5_Is.f
  simp only [rin_tells, Option.bind_some, althingref5_Is.j0]
  unfold sums
  by_cases ha : 0 ≤ a ∧ a ≤ 1073741824
  · by_cases hn : 0 ≤ n ∧ n ≤ 1073741824
    · by_cases hs : 0 ≤ s ∧ s ≤ 1073741824
      · have w2 : wrap64 (a + n) = a + n := wrap_in (by omega)
        have w3 : wrap64 (a + n + s) = a + n + s := wrap_in (by omega)
        rw [w2, w3]
        by_cases hk : a + n + s ≤ 1073741824
        · have hk' : ¬ (1073741824 < a + n + s) := by omega
          simp only [ha, hn, hs, hk, gt_iff_lt, hk', decide_true, decide_false, and_self, if_true, Bool.false_eq_true, if_false, Bool.true_and]
          unfold kinds
          by_cases k1 : kind = 1
          · subst k1
            by_cases hl : 0 ≤ level ∧ level ≤ 6 <;> by_cases hn : n = 0 <;> simp [hl, hn]
          · by_cases k2 : kind = 2
            · subst k2
              cases aye <;> by_cases hl : level = 0 <;> simp [hl]
            · by_cases k3 : kind = 3
              · subst k3
                cases aye <;> simp
              · simp [k1, k2, k3]
        · have hk' : 1073741824 < a + n + s := by omega
          simp [ha, hn, hs, hk, hk']
      · simp [ha, hn, hs]
    · simp [ha, hn]
  · simp [ha]

theorem gain_same (kind : Int) (aye : Bool) (level a n s v c : Int) : ∃ r, conv_Gain.f kind aye level a n s v c = some r ∧ althingref5_Gain.f kind aye level a n s v c = some r := by
  obtain ⟨r, h1, h2⟩ := votes_some a level
  obtain ⟨r', h1', h2'⟩ := votes_some a 0
  obtain ⟨r'', h1'', h2''⟩ := votes_some n 0
  unfold conv_Gain.f althingref5_Gain.f
  rw [h1, h2, h1', h2', h1'', h2'']
  by_cases k1 : kind = 1 <;> cases aye <;> simp [k1]

theorem capital_same (kind : Int) (aye : Bool) (level a n s : Int) : ∃ r, conv_Capital.f kind aye level a n s = some r ∧ althingref5_Capital.f kind aye level a n s = some r := ⟨_, rfl, rfl⟩

theorem pure (kind : Int) (aye : Bool) (level a n s v c : Int) : althinglaw5_ConvMay.f 5 kind aye level a n s v c = some true := by
  obtain ⟨⟨r1, r2, r3⟩, g1, g2⟩ := gain_same kind aye level a n s v c
  obtain ⟨q, c1, c2⟩ := capital_same kind aye level a n s
  unfold althinglaw5_ConvMay.f
  rw [ref_tells 4, is_tells 1]
  simp only [in_tells, Option.bind_some, althinglaw5_ConvMay.j0, is_tells 0, known_tells, c1, c2, g1, g2]
  cases (sums a n s && kinds kind aye level n s)
  · simp
  · by_cases hv : 0 ≤ v ∧ v ≤ 1099511627776
    · by_cases hc : 0 ≤ c ∧ c ≤ 1099511627776 <;> simp [hv, hc]
    · simp [hv]

theorem cells27 : Try.prog.cellsOf 27 = 2 := by kernel_rfl
theorem cells32 : Try.prog.cellsOf 32 = 6 := by kernel_rfl

theorem walks : Walks 10 Try.f10 := by
  intro H enc W base args ds ps hval hA _ _ _
  rw [Try.params10] at hA hval
  obtain ⟨v0, v1, d0, d1, p0, p1, rfl, rfl, rfl, h0, h1⟩ := trodAll_two hA
  obtain ⟨c0, c1, c2, c3, c4, c5, y0, y1, y2, y3, y4, y5, m, rfl, rfl, rfl, hy0, hy1, hy2, hy3, hy4, hy5⟩ := open_agg6 Try.underlying32 (by kernel_rfl) cells32 (hval 0 32 v0 rfl rfl) h0
  obtain ⟨a0, e0, rfl, _⟩ := DataW.trod_int Try.underlying3 hy0
  obtain ⟨a1, e1, rfl⟩ := DataW.trod_bool Try.underlying4 hy1
  obtain ⟨a2, e2, rfl, _⟩ := DataW.trod_int Try.underlying3 hy2
  obtain ⟨a3, e3, rfl, _⟩ := DataW.trod_int Try.underlying3 hy3
  obtain ⟨a4, e4, rfl, _⟩ := DataW.trod_int Try.underlying3 hy4
  obtain ⟨a5, e5, rfl, _⟩ := DataW.trod_int Try.underlying3 hy5
  simp at e0 e1 e2 e3 e4 e5; subst e0 e1 e2 e3 e4 e5
  obtain ⟨c0, c1, y0, y1, m', rfl, rfl, rfl, hy0, hy1⟩ := open_agg2 Try.underlying27 (by kernel_rfl) cells27 (hval 1 27 v1 rfl rfl) h1
  obtain ⟨a, e0, rfl, wa⟩ := DataW.trod_int Try.underlying3 hy0
  obtain ⟨b, e1, rfl, wb⟩ := DataW.trod_int Try.underlying3 hy1
  simp at e0 e1; subst e0 e1
  exact althinglaw5_ConvMay.calls 5 a0 a1 a2 a3 a4 a5 a b true W (pure a0 a1 a2 a3 a4 a5 a b)

set_option maxRecDepth 100000 in
theorem rowed (os : Os) (started : os.Started) (H : Type) (enc : TypeId × Value → H) :
    ReturnsInHanded {} Try.checked os 10 .any (Rows.convMaySpec.pre6 enc Try.prog Try.f10 Rows.convMayRow.domain false) (Rows.convMaySpec.post enc Try.prog Try.f10 false true false false) :=
  lifted (s := Rows.convMaySpec) Try.func10 (by kernel_rfl) (by kernel_rfl) (by kernel_rfl) (by kernel_rfl) rfl
    (fun H ds h => by
      have h' : ds.length = 2 := h
      match ds, h' with
      | [d1, d2], _ => rfl)
    os started H enc
    (ChangeSpec.witness6 (enc := enc) (C := Try.checked) false ⟨#[], #[.agg #[.int .i64 0, .bool false, .int .i64 0, .int .i64 0, .int .i64 0, .int .i64 0], .agg #[.int .i64 0, .int .i64 0]], []⟩ 8 (by kernel_rfl) (by kernel_rfl) (by kernel_rfl) (by kernel_rfl)) walks
theorem over : Rows.convMayRow.holds Try.pinned (OpenSpec.ofChange Rows.convMaySpec) :=
  OpenClaim.holds_of_wide 10 Try.f10 rfl rfl rfl rfl rfl rfl rfl ⟨rfl, rfl, rfl, rfl, rfl⟩ rfl rfl rfl rfl rfl (by kernel_rfl) Try.func10 (by kernel_rfl)
    (of_decide_eq_true (by kernel_rfl)) (by unfold Func.isWrapper; first | (rw [if_pos (by decide +kernel)]; kernel_rfl) | (rw [if_neg (by decide +kernel)]; exact ⟨rfl, rfl⟩))
    (fun os started H enc _ => rowed os started H enc)
end Go.Proofs.Ytdekdpompadfcaa.LawConvMay
namespace Go.Proofs.Ytdekdpompadfcaa
/-- The row, under a short name, for the claim. -/
theorem convMay_holds : Rows.ConvMaySaid := LawConvMay.over
end Go.Proofs.Ytdekdpompadfcaa
