import Derived.Test.YtilckocpgififaaFiPNum
import Derived.Test.YtilckocpgififaaFiGx0
import Derived.Test.YtilckocpgififaaFiGx3
import Derived.Test.YtilckocpgififaaFiGx4
import Derived.Test.YtilckocpgififaaFiGx6
import Derived.Test.YtilckocpgififaaFiHKnown
import Derived.IntWalk
import Derived.RangeFuncNested
import Derived.RangeFuncBound
import Derived.RangeFuncCalls
import Derived.RangeFuncLeaves
import Derived.RangeFuncBox
import Derived.Shelf.Abstract
import Derived.Shelf.RegionOpen
import Derived.OwnWalkIn
import Derived.TacticsInMore
import Derived.LoopNIn
import Derived.LoopIn
import Derived.Lib.Hide
import Derived.Test.YtilckocpgififaaFiHClone
/- Calls as bytes, plainly: what code.call, code.EncodeCall and the reference's call compute; how large a call is told. -/
namespace Go.Proofs.Ytilckocpgififaa.PNum
open Go.RowKit Go.Proofs.Ytilckocpgififaa.G Go.Proofs.YtilckocpgififaaW.PrintWords Go.Proofs.YtilckocpgififaaW.PrintMore Go.Proofs.YtilckocpgififaaW.PrintLast
set_option linter.unusedVariables false
set_option linter.unusedSimpArgs false

theorem rd_natT (l : List S25) (i : Nat) (h : i < l.length) : rd_T25 l (i : Int) = l[i] := rd_T l i h

/-! ### the reference's call -/
theorem rin_tells (a b c : Int) : althingref7_in.f a b c = some (decide (b ≤ a ∧ a ≤ c)) := by
  unfold althingref7_in.f
  by_cases h : a ≥ b
  · rw [if_pos h]; congr 1; simp; omega
  · rw [if_neg h]; congr 1; symm; exact decide_eq_false (by omega)
theorem rcall_loop (f : Nat) (l : List S25) (h4 : l.length ≤ 4) (dp : Int) (hd : 0 ≤ dp ∧ dp ≤ 10) (k0 k1 k2 : Int) (N : Nat) (ih : ∀ x ∈ l, ∀ k, N ≤ k → althingref7_call.f k x.f0 x.f1 x.f2 x.f3 (dp + 1) = some (okT f x)) (d : Nat) :
    ∀ (k i : Nat), i + d = l.length → d + N < k → althingref7_call.l0 k dp i k0 k1 k2 l = some ((l.drop i).all (okT f)) := by
  induction d with
  | zero =>
    intro k i hi hk
    obtain ⟨k, rfl⟩ : ∃ q, k = q + 1 := ⟨k - 1, by omega⟩
    rw [althingref7_call.l0, if_neg (by omega), List.drop_eq_nil_of_le (by omega)]
    rfl
  | succ d ihd =>
    intro k i hi hk
    obtain ⟨k, rfl⟩ : ∃ q, k = q + 1 := ⟨k - 1, by omega⟩
    have hlt : i < l.length := by omega
    have e1 : wrap64 ((i : Int) + 1) = ((i + 1 : Nat) : Int) := by rw [wrap_in (by omega) (by omega)]; omega
    have e2 : wrap64 (dp + 1) = dp + 1 := wrap_in (by omega) (by omega)
    have c1 : (i : Int) < (l.length : Int) := by omega
    have c2 : (0 : Int) ≤ (i : Int) := by omega
    have hm := List.getElem_mem hlt
    rw [althingref7_call.l0, if_pos c1, if_pos c2, rd_natT l i hlt, e2, ih _ hm k (by omega), Option.bind_some, e1, List.drop_eq_getElem_cons hlt, List.all_cons]
    by_cases h : okT f l[i] = true
    · rw [if_pos h, ihd k (i + 1) (by omega) (by omega), h]; rfl
    · rw [if_neg h, Bool.eq_false_iff.2 h]; rfl
theorem rcall_tells : ∀ (f : Nat) (dp : Int), dp + f = 3 → 0 ≤ dp → ∀ (c : S25) (k : Nat), 10 + 10 * f ≤ k → althingref7_call.f k c.f0 c.f1 c.f2 c.f3 dp = some (okT f c) := by
  intro f
  induction f with
  | zero =>
    intro dp hd h0 c k hk
    obtain ⟨k, rfl⟩ : ∃ q, k = q + 5 := ⟨k - 5, by omega⟩
    have hdp : dp = 3 := by omega
    subst hdp
    unfold okT okC leafOk
    by_cases h5 : c.f0 = 5
    · simp only [althingref7_call.f, althingref7_call.j0, althingref7_call.j1, althingref7_call.j2, rin_tells, h5, Option.bind_some]
      simp
    · by_cases h0 : c.f3.length = 0
      · by_cases h1 : c.f0 = 1
        · simp only [althingref7_call.f, althingref7_call.j0, althingref7_call.j1, althingref7_call.j2, rin_tells, h1, h0, Option.bind_some]
          by_cases t : c.f1 = 0 <;> simp [t]
        · by_cases h2 : c.f0 = 2
          · simp only [althingref7_call.f, althingref7_call.j0, althingref7_call.j1, althingref7_call.j2, rin_tells, h2, h0, Option.bind_some]
            by_cases t : 0 ≤ c.f1 ∧ c.f1 ≤ 9 <;> simp [t]
          · by_cases h3 : c.f0 = 3
            · simp only [althingref7_call.f, althingref7_call.j0, althingref7_call.j1, althingref7_call.j2, rin_tells, h3, h0, Option.bind_some]
              by_cases t : c.f1 = 0 <;> simp [t]
            · by_cases h4 : c.f0 = 4
              · simp only [althingref7_call.f, althingref7_call.j0, althingref7_call.j1, althingref7_call.j2, rin_tells, h4, h0, Option.bind_some]
                by_cases t : c.f1 = 0 <;> simp [t]
              · simp only [althingref7_call.f, althingref7_call.j0, althingref7_call.j1, althingref7_call.j2, rin_tells, h5, h1, h2, h3, h4, h0, Option.bind_some]
                by_cases t : c.f1 = 0 <;> simp [t, h3, h4]
      · have hp : (c.f3.length : Int) > 0 := by omega
        rw [althingref7_call.f, if_neg h5, if_pos hp, althingref7_call.j0, if_pos rfl]
        congr 1
        simp [h0]
  | succ f ih =>
    intro dp hd h0 c k hk
    have e2 : wrap64 (dp + 1) = dp + 1 := wrap_in (by omega) (by omega)
    by_cases h5 : c.f0 = 5
    · obtain ⟨k, rfl⟩ : ∃ q, k = q + 4 := ⟨k - 4, by omega⟩
      unfold okT okC
      rw [if_pos h5]
      have hdd : ¬ dp ≥ 3 := by omega
      have hi := fun h4 => rcall_loop f c.f3 h4 dp (by omega) c.f0 c.f1 c.f2 (10 + 10 * f) (fun x _ q hq => ih (dp + 1) (by omega) (by omega) x q hq) c.f3.length k 0 (by omega) (by omega)
      rw [show ((0 : Nat) : Int) = 0 from rfl, List.drop_zero] at hi
      rw [althingref7_call.f, if_pos h5, if_neg (by omega), althingref7_call.j0]
      by_cases t : c.f1 = 0
      · have t1 : (c.f1 != 0) = false := by simp [t]
        rw [t1, if_neg (by simp), if_neg (by omega), if_neg (by omega), if_neg (by omega), althingref7_call.j1, if_neg (by simp; omega), if_pos h5]
        by_cases n : c.f2 = 0
        · rw [if_pos n, rin_tells, Option.bind_some]
          by_cases l4 : c.f3.length ≤ 4 ∧ 1 ≤ c.f3.length
          · rw [if_pos (decide_eq_true (by omega)), althingref7_call.j2, if_neg (by simp; omega), hi (by omega)]
            simp [t, n, l4]
          · rw [if_neg (by simp; omega), althingref7_call.j2, if_pos rfl]
            congr 1; symm
            have : decide (1 ≤ c.f3.length ∧ c.f3.length ≤ 4) = false := decide_eq_false (by omega)
            simp only [this, Bool.and_false, Bool.false_and]
        · rw [if_neg n, althingref7_call.j2, if_pos rfl]; simp [n]
      · have t1 : (c.f1 != 0) = true := by simp [t]
        rw [t1, if_pos rfl]; simp [t]
    · have hleaf : althingref7_call.f k c.f0 c.f1 c.f2 c.f3 dp = some (leafOk c.f0 c.f1 c.f2 c.f3) := by
        obtain ⟨k, rfl⟩ : ∃ q, k = q + 5 := ⟨k - 5, by omega⟩
        unfold leafOk
        by_cases h0 : c.f3.length = 0
        · by_cases h1 : c.f0 = 1
          · simp only [althingref7_call.f, althingref7_call.j0, althingref7_call.j1, althingref7_call.j2, rin_tells, h1, h0, Option.bind_some]
            by_cases t : c.f1 = 0 <;> simp [t]
          · by_cases h2 : c.f0 = 2
            · simp only [althingref7_call.f, althingref7_call.j0, althingref7_call.j1, althingref7_call.j2, rin_tells, h2, h0, Option.bind_some]
              by_cases t : 0 ≤ c.f1 ∧ c.f1 ≤ 9 <;> simp [t]
            · by_cases h3 : c.f0 = 3
              · simp only [althingref7_call.f, althingref7_call.j0, althingref7_call.j1, althingref7_call.j2, rin_tells, h3, h0, Option.bind_some]
                by_cases t : c.f1 = 0 <;> simp [t]
              · by_cases h4 : c.f0 = 4
                · simp only [althingref7_call.f, althingref7_call.j0, althingref7_call.j1, althingref7_call.j2, rin_tells, h4, h0, Option.bind_some]
                  by_cases t : c.f1 = 0 <;> simp [t]
                · simp only [althingref7_call.f, althingref7_call.j0, althingref7_call.j1, althingref7_call.j2, rin_tells, h5, h1, h2, h3, h4, h0, Option.bind_some]
                  by_cases t : c.f1 = 0 <;> simp [t, h3, h4]
        · have hp : (c.f3.length : Int) > 0 := by omega
          rw [althingref7_call.f, if_neg h5, if_pos hp, althingref7_call.j0, if_pos rfl]
          congr 1
          simp [h0]
      rw [hleaf]
      unfold okT okC
      rw [if_neg h5]
theorem risCall_tells (c : S25) (k : Nat) (hk : 40 ≤ k) : althingref7_IsCall.f k c.f0 c.f1 c.f2 c.f3 = some (okT 3 c) := by
  unfold althingref7_IsCall.f
  rw [rcall_tells 3 0 (by omega) (by omega) c k (by omega)]; rfl

/-! ### how large a call is told -/
theorem call_ind {p : S25 → Prop} (h : ∀ c : S25, (∀ x ∈ c.f3, p x) → p c) : ∀ c, p c
  | ⟨a, b, n, l⟩ => h _ (fun x hx => call_ind h x)
termination_by c => SizeOf.sizeOf c
decreasing_by
  have := List.sizeOf_lt_of_mem hx
  simp only [S25.mk.sizeOf_spec] at *
  omega
theorem size_mono (c : S25) {k k' : Nat} (h : k ≤ k') {r : Int} (hr : althinglaw7_size.f k c.f0 c.f1 c.f2 c.f3 = some r) : althinglaw7_size.f k' c.f0 c.f1 c.f2 c.f3 = some r := by
  induction h with
  | refl => exact hr
  | step _ ih => exact althinglaw7_size.mono _ _ _ _ _ _ ih
theorem size_loop (l : List S25) (hl : l.length ≤ 9223372036854775807) (a b c : Int) (K : Nat) (ih : ∀ x ∈ l, ∀ k, K ≤ k → ∃ r, althinglaw7_size.f k x.f0 x.f1 x.f2 x.f3 = some r) (d : Nat) :
    ∀ (k i : Nat) (n : Int), i + d = l.length → d + K < k → ∃ r, althinglaw7_size.l0 k n i a b c l = some r := by
  induction d with
  | zero =>
    intro k i n hi hk
    obtain ⟨k, rfl⟩ : ∃ q, k = q + 1 := ⟨k - 1, by omega⟩
    exact ⟨n, by rw [althinglaw7_size.l0, if_neg (by omega)]⟩
  | succ d ihd =>
    intro k i n hi hk
    obtain ⟨k, rfl⟩ : ∃ q, k = q + 1 := ⟨k - 1, by omega⟩
    have hlt : i < l.length := by omega
    have e1 : wrap64 ((i : Int) + 1) = ((i + 1 : Nat) : Int) := by rw [wrap_in (by omega) (by omega)]; omega
    have c1 : (i : Int) < (l.length : Int) := by omega
    have c2 : (0 : Int) ≤ (i : Int) := by omega
    by_cases h3 : n < 300
    · obtain ⟨r, hr⟩ := ih _ (List.getElem_mem hlt) k (by omega)
      obtain ⟨q, hq⟩ := ihd k (i + 1) (wrap64 (n + r)) (by omega) (by omega)
      exact ⟨q, by rw [althinglaw7_size.l0, if_pos c1, if_pos h3, if_pos c2, rd_natT l i hlt, hr, Option.bind_some, e1]; exact hq⟩
    · exact ⟨n, by rw [althinglaw7_size.l0, if_pos c1, if_neg h3]⟩
/-- A call whose lists are no longer than can be. -/
def Fits : Nat → S25 → Prop
  | 0, _ => False
  | f + 1, c => c.f3.length ≤ 9223372036854775807 ∧ ∀ x ∈ c.f3, Fits f x
theorem size_some : ∀ (f : Nat) (c : S25), Fits f c → ∃ k r, althinglaw7_size.f k c.f0 c.f1 c.f2 c.f3 = some r
  | 0, c, h => h.elim
  | f + 1, c, ⟨hl, h⟩ => by
    have hK : ∀ l : List S25, (∀ x ∈ l, Fits f x) → ∃ K, ∀ x ∈ l, ∀ k, K ≤ k → ∃ r, althinglaw7_size.f k x.f0 x.f1 x.f2 x.f3 = some r := by
      intro l
      induction l with
      | nil => intro _; exact ⟨0, fun x hx => by cases hx⟩
      | cons x l ih =>
        intro hx
        obtain ⟨K, hK⟩ := ih (fun y hy => hx y (by simp [hy]))
        obtain ⟨k, r, hr⟩ := size_some f x (hx x (by simp))
        refine ⟨K + k, fun y hy q hq => ?_⟩
        rcases List.mem_cons.1 hy with rfl | hy
        · exact ⟨r, size_mono y (by omega) hr⟩
        · exact hK y hy q (by omega)
    obtain ⟨K, hK⟩ := hK c.f3 h
    obtain ⟨r, hr⟩ := size_loop c.f3 hl c.f0 c.f1 c.f2 K hK c.f3.length (c.f3.length + K + 1) 0 (wrap64 (1 + (c.f3.length : Int))) (by omega) (by omega)
    exact ⟨c.f3.length + K + 2, r, by rw [althinglaw7_size.f]; exact hr⟩
theorem Fits.more : ∀ {f : Nat} {c : S25}, Fits f c → Fits (f + 1) c
  | 0, _, h => h.elim
  | _ + 1, _, h => ⟨h.1, fun x hx => (h.2 x hx).more⟩
theorem Fits.mono {f f' : Nat} (h : f ≤ f') {c : S25} (hc : Fits f c) : Fits f' c := by
  induction h with
  | refl => exact hc
  | step _ ih => exact ih.more
theorem fits_list (l : List S25) (h : ∀ x ∈ l, ∃ f, Fits f x) : ∃ f, ∀ x ∈ l, Fits f x := by
  induction l with
  | nil => exact ⟨0, fun x hx => by cases hx⟩
  | cons x l ih =>
    obtain ⟨f, hf⟩ := h x (by simp)
    obtain ⟨g, hg⟩ := ih (fun y hy => h y (by simp [hy]))
    refine ⟨f + g, fun y hy => ?_⟩
    rcases List.mem_cons.1 hy with rfl | hy
    · exact hf.mono (by omega)
    · exact (hg y hy).mono (by omega)
theorem fits_kids (w : World) : ∀ (c : S25) (A : Option Addr), Kd.C k25 w A c.f3.length c.f3 → ∃ f, Fits f c := by
  apply call_ind
  intro c ih A h
  obtain ⟨f, hf⟩ := fits_list c.f3 (fun x hx => by
    obtain ⟨i, hi, rfl⟩ := List.mem_iff_getElem.1 hx
    obtain ⟨ad, A3, c3, eA, h0, h1, h2, h3, hl3, hC3⟩ := at_T25 h (i : Int) (by omega) (by omega)
    rw [rd_T c.f3 i hi] at hC3
    exact ih _ (List.getElem_mem hi) A3 hC3)
  have := C_short h
  exact ⟨f + 1, by omega, hf⟩

/-! ### more room changes nothing -/
end Go.Proofs.Ytilckocpgififaa.PNum
