/- How large a call is. -/
import Derived.Test.YtockdfnnhkhlkaaGreatDoorNoHSameCall
import Derived.Test.YtockdfnnhkhlkaaGreatDoorNoGx11
namespace Go.Proofs.YtockdfnnhkhlkaaGreatDoor.PNum
open Go.RowKit Go.Proofs.YtockdfnnhkhlkaaGreatDoor.G Go.Proofs.YtockdfnnhkhlkaaGreatDoorW.PrintWords Go.Proofs.YtockdfnnhkhlkaaGreatDoorW.PrintMore Go.Proofs.YtockdfnnhkhlkaaGreatDoorW.PrintLast
set_option linter.unusedVariables false
set_option linter.unusedSimpArgs false

theorem rd_natT (l : List S28) (i : Nat) (h : i < l.length) : rd_T28 l (i : Int) = l[i] := rd_T l i h
theorem call_ind {p : S28 → Prop} (h : ∀ c : S28, (∀ x ∈ c.f3, p x) → p c) : ∀ c, p c
  | ⟨a, b, n, l⟩ => h _ (fun x hx => call_ind h x)
termination_by c => SizeOf.sizeOf c
decreasing_by
  have := List.sizeOf_lt_of_mem hx
  simp only [S28.mk.sizeOf_spec] at *
  omega
theorem size_mono (c : S28) {k k' : Nat} (h : k ≤ k') {r : Int} (hr : althinglaw14_size.f k c.f0 c.f1 c.f2 c.f3 = some r) : althinglaw14_size.f k' c.f0 c.f1 c.f2 c.f3 = some r := by
  induction h with
  | refl => exact hr
  | step _ ih => exact althinglaw14_size.mono _ _ _ _ _ _ ih
theorem size_loop (l : List S28) (hl : l.length ≤ 9223372036854775807) (a b c : Int) (K : Nat) (ih : ∀ x ∈ l, ∀ k, K ≤ k → ∃ r, althinglaw14_size.f k x.f0 x.f1 x.f2 x.f3 = some r) (d : Nat) :
    ∀ (k i : Nat) (n : Int), i + d = l.length → d + K < k → ∃ r, althinglaw14_size.l0 k n i a b c l = some r := by
  induction d with
  | zero =>
    intro k i n hi hk
    obtain ⟨k, rfl⟩ : ∃ q, k = q + 1 := ⟨k - 1, by omega⟩
    exact ⟨n, by rw [althinglaw14_size.l0, if_neg (by omega)]⟩
  | succ d ihd =>
    intro k i n hi hk
    obtain ⟨k, rfl⟩ : ∃ q, k = q + 1 := ⟨k - 1, by omega⟩
    have hlt : i < l.length := by omega
    have e1 : wrap64 ((i : Int) + 1) = ((i + 1 : Nat) : Int) := by rw [wrap_in (by omega) (by omega)]; omega
    have c1 : (i : Int) < (l.length : Int) := by omega
    have c2 : (0 : Int) ≤ (i : Int) := by omega
    by_cases h3 : n < 300
    · obtain ⟨r, hr⟩ := ih _ (List.getElem_mem hlt) k (by omega)
      obtain ⟨q, hq⟩ := ihd k (i + 1) (wrap64 (n + r)) (by omega) (by omega)
      exact ⟨q, by rw [althinglaw14_size.l0, if_pos c1, if_pos h3, if_pos c2, rd_natT l i hlt, hr, Option.bind_some, e1]; exact hq⟩
    · exact ⟨n, by rw [althinglaw14_size.l0, if_pos c1, if_neg h3]⟩
/-- A call whose lists are no longer than can be. -/
def Fits : Nat → S28 → Prop
  | 0, _ => False
  | f + 1, c => c.f3.length ≤ 9223372036854775807 ∧ ∀ x ∈ c.f3, Fits f x
theorem size_some : ∀ (f : Nat) (c : S28), Fits f c → ∃ k r, althinglaw14_size.f k c.f0 c.f1 c.f2 c.f3 = some r
  | 0, c, h => h.elim
  | f + 1, c, ⟨hl, h⟩ => by
    have hK : ∀ l : List S28, (∀ x ∈ l, Fits f x) → ∃ K, ∀ x ∈ l, ∀ k, K ≤ k → ∃ r, althinglaw14_size.f k x.f0 x.f1 x.f2 x.f3 = some r := by
      intro l
      induction l with
      | nil => intro _; exact ⟨0, fun x hx => by cases hx⟩
      | cons x l ih =>
        intro hx
        obtain ⟨K, hK⟩ := ih (fun y hy => hx y (by simp [hy]))
        obtain ⟨k, r, hr⟩ := size_some f x (hx x (by simp))
        refine ⟨K + k, fun y hy q hq => ?_⟩
        rcases List.mem_cons.1 hy with rfl | hy
        · exact ⟨r, size_mono y (by omega) hr⟩
        · exact hK y hy q (by omega)
    obtain ⟨K, hK⟩ := hK c.f3 h
    obtain ⟨r, hr⟩ := size_loop c.f3 hl c.f0 c.f1 c.f2 K hK c.f3.length (c.f3.length + K + 1) 0 (wrap64 (1 + (c.f3.length : Int))) (by omega) (by omega)
    exact ⟨c.f3.length + K + 2, r, by rw [althinglaw14_size.f]; exact hr⟩
theorem Fits.more : ∀ {f : Nat} {c : S28}, Fits f c → Fits (f + 1) c
  | 0, _, h => h.elim
  | _ + 1, _, h => ⟨h.1, fun x hx => (h.2 x hx).more⟩
theorem Fits.mono {f f' : Nat} (h : f ≤ f') {c : S28} (hc : Fits f c) : Fits f' c := by
  induction h with
  | refl => exact hc
  | step _ ih => exact ih.more
theorem fits_list (l : List S28) (h : ∀ x ∈ l, ∃ f, Fits f x) : ∃ f, ∀ x ∈ l, Fits f x := by
  induction l with
  | nil => exact ⟨0, fun x hx => by cases hx⟩
  | cons x l ih =>
    obtain ⟨f, hf⟩ := h x (by simp)
    obtain ⟨g, hg⟩ := ih (fun y hy => h y (by simp [hy]))
    refine ⟨f + g, fun y hy => ?_⟩
    rcases List.mem_cons.1 hy with rfl | hy
    · exact hf.mono (by omega)
    · exact (hg y hy).mono (by omega)
theorem fits_kids (w : World) : ∀ (c : S28) (A : Option Addr), Kd.C k28 w A c.f3.length c.f3 → ∃ f, Fits f c := by
  apply call_ind
  intro c ih A h
  obtain ⟨f, hf⟩ := fits_list c.f3 (fun x hx => by
    obtain ⟨i, hi, rfl⟩ := List.mem_iff_getElem.1 hx
    obtain ⟨ad, A3, c3, eA, h0, h1, h2, h3, hl3, hC3⟩ := at_T28 h (i : Int) (by omega) (by omega)
    rw [rd_T c.f3 i hi] at hC3
    exact ih _ (List.getElem_mem hi) A3 hC3)
  have := C_short h
  exact ⟨f + 1, by omega, hf⟩

end Go.Proofs.YtockdfnnhkhlkaaGreatDoor.PNum
