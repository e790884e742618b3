/- Arguments opened: a slice whose elements a kind tells; tracks. -/
import Derived.Test.YtockdfnnhkhlkaaGreatCnZRefNewC
import Derived.Test.YtockdfnnhkhlkaaGreatCnFrame
import Derived.Deep.Slices
import Derived.Deep.Fields
import Derived.ChangeSame
import Derived.Lib.SmallJoins
import Derived.WalkKit
import Derived.ProofKit
import Derived.ChangeAt
import Derived.OpenShut
namespace Go.Proofs.YtockdfnnhkhlkaaGreat.ArgT
open Go.ChangeShapes Go.WideShapes Go.ChangeAt Go.RowKit Go.Shelf Go.Deep Go.Proofs.YtockdfnnhkhlkaaGreat.G Go.Proofs.YtockdfnnhkhlkaaGreat.Frame Go.Proofs.YtockdfnnhkhlkaaGreatW.PrintWords Go.Proofs.YtockdfnnhkhlkaaGreatW.PrintLast Go.Proofs.YtockdfnnhkhlkaaGreatW.PrintMore
set_option linter.unusedVariables false
set_option linter.unusedSimpArgs false

theorem list_of {α : Type} {P : Nat → α → Prop} : ∀ (n : Nat), (∀ i, i < n → ∃ x, P i x) → ∃ l : List α, l.length = n ∧ ∀ i x, l[i]? = some x → P i x := by
  intro n
  induction n with
  | zero => intro _; exact ⟨[], rfl, fun i x h => by simp at h⟩
  | succ n ih =>
    intro h
    obtain ⟨l, hl, hp⟩ := ih (fun i hi => h i (by omega))
    obtain ⟨x, hx⟩ := h n (by omega)
    refine ⟨l ++ [x], by simp [hl], fun i y hy => ?_⟩
    rcases Nat.lt_or_ge i n with hi | hi
    · rw [List.getElem?_append_left (by omega)] at hy
      exact hp i y hy
    · rw [List.getElem?_append_right (by omega)] at hy
      have : i - l.length = 0 := by
        rcases Nat.eq_zero_or_pos (i - l.length) with h0 | h0
        · exact h0
        · rw [List.getElem?_eq_none (by simp; omega)] at hy; cases hy
      rw [this] at hy
      simp at hy
      obtain rfl : i = n := by omega
      exact hy ▸ hx
section
variable {H : Type} {enc : TypeId × Value → H}
/-- A slice that came in, its elements read as d tells them. -/
theorem open_kd {α : Type} {d : Kd α} {P : Program} {W : World} {t e : TypeId} (ht : P.underlying t = some (.slice e)) (hsz : P.cellsOf e = d.sz)
    (elem : ∀ n cs y, DataW.trod enc P W 0 (fun _ => true) true n e cs = some y → ∃ x, d.K W x cs ∧ cs.length = d.sz)
    {fuel : Nat} {cs : List Value} {z : DataW H × List MemPlace} (h : DataW.trod enc P W 0 (fun _ => true) true fuel t cs = some z) :
    ∃ (A : Option Addr) (c : Nat) (xs : List α), cs = [.slice A xs.length c] ∧ d.C W A xs.length xs ∧ xs.length ≤ c := by
  rcases open_slice ht h with ⟨rfl, rfl⟩ | ⟨ad, len, cap, m, n, D, Pl, rfl, _, hl, hm, hmm, rfl, hi⟩
  · exact ⟨none, 0, [], rfl, Kd.C_nil _ _, Nat.le_refl _⟩
  · have hmle : len ≤ m := by rw [hmm]; split <;> omega
    obtain ⟨xs, hlen, hp⟩ := list_of (P := fun i (x : α) => ∃ cs', d.K W x cs' ∧ cs'.length = d.sz ∧ (∀ j u, cs'[j]? = some u → W.cell? (ad.add (i * d.sz + j)) = some u)) len (by
      intro i hlt
      obtain ⟨cs', hc, ht'⟩ := hi i (by omega)
      obtain ⟨x, hK, hl'⟩ := elem n cs' _ ht'
      rw [hsz] at hc
      obtain ⟨_, hcl, hat⟩ := World.cells?_some hc
      refine ⟨x, cs', hK, hl', fun j u hj => ?_⟩
      have hjl : j < d.sz := by rw [← hl']; exact (List.getElem?_eq_some_iff.1 hj).1
      have := hat j hjl
      rw [← Go.Deep.add_add, this, hj])
    subst hlen
    refine ⟨some ad, cap, xs, rfl, ⟨rfl, by unfold maxLen at hm; omega, fun _ => ⟨ad, rfl, fun j p hj => ?_⟩⟩, hl⟩
    obtain ⟨cs', hK, hl', hat⟩ := hp j p hj
    exact ⟨cs', hl', hK, hat⟩
theorem elem_int {k : IntKind} {P : Program} {W : World} {e : TypeId} (he : P.underlying e = some (.int k)) : ∀ n cs y, DataW.trod enc P W 0 (fun _ => true) true n e cs = some y → ∃ x, (Kd.int k).K W x cs ∧ cs.length = (Kd.int k).sz := by
  intro n cs y h
  obtain ⟨x, rfl, _, hw⟩ := DataW.trod_int he h
  exact ⟨x, rfl, rfl⟩
theorem c_int : Tryz.prog.cellsOf 3 = 1 := by kernel_rfl
theorem c_curve : Tryz.prog.cellsOf 82 = 5 := by kernel_rfl
theorem c_track : Tryz.prog.cellsOf 84 = 18 := by kernel_rfl
set_option maxRecDepth 100000 in
theorem elem_curve {W : World} {n : Nat} {cs : List Value} {y : DataW H × List MemPlace} (h : DataW.trod enc Tryz.prog W 0 (fun _ => true) true n 82 cs = some y) : ∃ x : S82, cs = [.int .i64 x.f0, .int .i64 x.f1, .int .i64 x.f2, .int .i64 x.f3, .int .i64 x.f4] := by
  obtain ⟨xs, n', _, _, hl, hxl, hf⟩ := DataW.trod_struct Tryz.underlying82 h
  have hl : cs.length = 5 := hl.trans c_curve
  have hxl : xs.length = 5 := hxl
  match cs, hl, hf with
  | [c0, c1, c2, c3, c4], _, hf =>
    obtain ⟨x0, e0, _⟩ := DataW.trod_int Tryz.underlying3 ((hf 0 _ rfl).trans (List.getElem?_eq_getElem (by omega)))
    obtain ⟨x1, e1, _⟩ := DataW.trod_int Tryz.underlying3 ((hf 1 _ rfl).trans (List.getElem?_eq_getElem (by omega)))
    obtain ⟨x2, e2, _⟩ := DataW.trod_int Tryz.underlying3 ((hf 2 _ rfl).trans (List.getElem?_eq_getElem (by omega)))
    obtain ⟨x3, e3, _⟩ := DataW.trod_int Tryz.underlying3 ((hf 3 _ rfl).trans (List.getElem?_eq_getElem (by omega)))
    obtain ⟨x4, e4, _⟩ := DataW.trod_int Tryz.underlying3 ((hf 4 _ rfl).trans (List.getElem?_eq_getElem (by omega)))
    change List.take (Tryz.prog.cellsOf 3) (List.drop 0 _) = _ at e0
    change List.take (Tryz.prog.cellsOf 3) (List.drop 1 _) = _ at e1
    change List.take (Tryz.prog.cellsOf 3) (List.drop 2 _) = _ at e2
    change List.take (Tryz.prog.cellsOf 3) (List.drop 3 _) = _ at e3
    change List.take (Tryz.prog.cellsOf 3) (List.drop 4 _) = _ at e4
    rw [c_int] at e0 e1 e2 e3 e4
    simp only [List.drop_succ_cons, List.drop_zero, List.take_succ_cons, List.take_zero, List.cons.injEq, and_true] at e0 e1 e2 e3 e4
    subst e0; subst e1; subst e2; subst e3; subst e4
    exact ⟨⟨x0, x1, x2, x3, x4⟩, rfl⟩
set_option maxRecDepth 100000 in
set_option maxHeartbeats 2000000 in
theorem elem_track {W : World} : ∀ n cs y, DataW.trod enc Tryz.prog W 0 (fun _ => true) true n 84 cs = some y → ∃ x, k84.K W x cs ∧ cs.length = k84.sz := by
  intro n cs y h
  obtain ⟨xs, n', _, _, hl, hxl, hf⟩ := DataW.trod_struct Tryz.underlying84 h
  have hl : cs.length = 18 := hl.trans c_track
  have hxl : xs.length = 10 := hxl
  match cs, hl, hf with
  | [c0, c1, c2, c3, c4, c5, c6, c7, c8, c9, c10, c11, c12, c13, c14, c15, c16, c17], _, hf =>
    obtain ⟨x0, e0, _⟩ := DataW.trod_int Tryz.underlying3 ((hf 0 _ rfl).trans (List.getElem?_eq_getElem (by omega)))
    obtain ⟨x1, e1, _⟩ := DataW.trod_int Tryz.underlying3 ((hf 1 _ rfl).trans (List.getElem?_eq_getElem (by omega)))
    obtain ⟨x2, e2, _⟩ := DataW.trod_int Tryz.underlying3 ((hf 2 _ rfl).trans (List.getElem?_eq_getElem (by omega)))
    obtain ⟨x3, e3, _⟩ := DataW.trod_int Tryz.underlying3 ((hf 3 _ rfl).trans (List.getElem?_eq_getElem (by omega)))
    obtain ⟨x4, e4, _⟩ := DataW.trod_int Tryz.underlying3 ((hf 4 _ rfl).trans (List.getElem?_eq_getElem (by omega)))
    obtain ⟨x5, e5, _⟩ := DataW.trod_int Tryz.underlying3 ((hf 5 _ rfl).trans (List.getElem?_eq_getElem (by omega)))
    obtain ⟨x6, e6⟩ := elem_curve ((hf 6 _ rfl).trans (List.getElem?_eq_getElem (by omega)))
    obtain ⟨x7, e7⟩ := elem_curve ((hf 7 _ rfl).trans (List.getElem?_eq_getElem (by omega)))
    obtain ⟨x8, e8, _⟩ := DataW.trod_int Tryz.underlying3 ((hf 8 _ rfl).trans (List.getElem?_eq_getElem (by omega)))
    obtain ⟨x9, e9, _⟩ := DataW.trod_int Tryz.underlying3 ((hf 9 _ rfl).trans (List.getElem?_eq_getElem (by omega)))
    clear hf
    change List.take (Tryz.prog.cellsOf 3) (List.drop 0 _) = _ at e0
    change List.take (Tryz.prog.cellsOf 3) (List.drop 1 _) = _ at e1
    change List.take (Tryz.prog.cellsOf 3) (List.drop 2 _) = _ at e2
    change List.take (Tryz.prog.cellsOf 3) (List.drop 3 _) = _ at e3
    change List.take (Tryz.prog.cellsOf 3) (List.drop 4 _) = _ at e4
    change List.take (Tryz.prog.cellsOf 3) (List.drop 5 _) = _ at e5
    change List.take (Tryz.prog.cellsOf 82) (List.drop 6 _) = _ at e6
    change List.take (Tryz.prog.cellsOf 82) (List.drop 11 _) = _ at e7
    change List.take (Tryz.prog.cellsOf 3) (List.drop 16 _) = _ at e8
    change List.take (Tryz.prog.cellsOf 3) (List.drop 17 _) = _ at e9
    rw [c_int] at e0 e1 e2 e3 e4 e5 e8 e9
    rw [c_curve] at e6 e7
    simp only [List.drop_succ_cons, List.drop_zero, List.take_succ_cons, List.take_zero, List.cons.injEq, and_true] at e0 e1 e2 e3 e4 e5 e6 e7 e8 e9
    obtain ⟨a6, b6, d6, f6, g6⟩ := e6
    obtain ⟨a7, b7, d7, f7, g7⟩ := e7
    subst e0; subst e1; subst e2; subst e3; subst e4; subst e5; subst e8; subst e9
    subst a6; subst b6; subst d6; subst f6; subst g6; subst a7; subst b7; subst d7; subst f7; subst g7
    exact ⟨⟨x0, x1, x2, x3, x4, x5, x6, x7, x8, x9⟩, k84.K_of_M (k84_mkM W 0 (fun _ => True) _), rfl⟩
end
end Go.Proofs.YtockdfnnhkhlkaaGreat.ArgT
