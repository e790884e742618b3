import Derived.Test.YtdnfknphahmofaaArgBytes
import Derived.Test.YtdnfknphahmofaaFrameUpto
import Derived.Deep.Slices
/- Slices that came in, of whatever elements, as the printed functions read them; rows of bytes. -/
namespace Go.Proofs.Ytdnfknphahmofaa.ArgBytes
open Go.ChangeShapes Go.WideShapes Go.ChangeAt Go.RowKit Go.Deep Go.Proofs.Ytdnfknphahmofaa.G Go.Proofs.Ytdnfknphahmofaa.PNum Go.Proofs.Ytdnfknphahmofaa.Frame Go.Proofs.YtdnfknphahmofaaW.PrintWords
set_option linter.unusedVariables false
variable {H : Type} {enc : TypeId × Value → H}

/-- A slice, its elements read as d tells them; Q: what is known of each, and of its reading. -/
theorem open_kd {α : Type} {d : Kd α} {P : Program} {W : World} {t e : TypeId} (Q : α → DataW H → Prop) (ht : P.underlying t = some (.slice e)) (hsz : P.cellsOf e = d.sz)
    (elem : ∀ n cs y, DataW.trod enc P W 0 (fun _ => true) true n e cs = some y → ∃ x, d.K W x cs ∧ cs.length = d.sz ∧ Q x y.1)
    {fuel : Nat} {cs : List Value} {z : DataW H × List MemPlace} (h : DataW.trod enc P W 0 (fun _ => true) true fuel t cs = some z) :
    ∃ (A : Option Addr) (c : Nat) (xs : List α), cs = [.slice A xs.length c] ∧ d.C W A xs.length xs ∧ xs.length ≤ c ∧ xs.length ≤ maxLen ∧
      ((z.1 = .nil ∧ xs = []) ∨ ∃ els spare, z.1 = .slice els spare ∧ els.length = xs.length ∧ ∀ (i : Nat) x, xs[i]? = some x → ∃ y, els[i]? = some y ∧ Q x y) := by
  rcases open_slice ht h with ⟨rfl, rfl⟩ | ⟨ad, len, cap, m, n, D, Pl, rfl, _, hl, hm, hmm, rfl, hi⟩
  · exact ⟨none, 0, [], rfl, Kd.C_nil _ _, Nat.le_refl _, Nat.zero_le _, .inl ⟨rfl, rfl⟩⟩
  · have hmle : len ≤ m := by rw [hmm]; split <;> omega
    obtain ⟨xs, hlen, hp⟩ := list_of (P := fun i (x : α) => ∃ cs', d.K W x cs' ∧ cs'.length = d.sz ∧ (∀ j u, cs'[j]? = some u → W.cell? (ad.add (i * d.sz + j)) = some u) ∧ Q x (D i)) len (by
      intro i hlt
      obtain ⟨cs', hc, ht'⟩ := hi i (by omega)
      obtain ⟨x, hK, hl', hQ⟩ := elem n cs' _ ht'
      rw [hsz] at hc
      obtain ⟨_, hcl, hat⟩ := World.cells?_some hc
      refine ⟨x, cs', hK, hl', fun j u hj => ?_, hQ⟩
      have hjl : j < d.sz := by rw [← hl']; exact (List.getElem?_eq_some_iff.1 hj).1
      have := hat j hjl
      rw [← Go.Deep.add_add, this, hj])
    subst hlen
    refine ⟨some ad, cap, xs, rfl, ⟨rfl, by unfold maxLen at hm; omega, fun _ => ⟨ad, rfl, fun j p hj => ?_⟩⟩, hl, Nat.le_trans hl hm, .inr ⟨_, _, rfl, by simp, fun i x hx => ?_⟩⟩
    · obtain ⟨cs', hK, hl', hat, _⟩ := hp j p hj
      exact ⟨cs', hl', hK, hat⟩
    · obtain ⟨_, _, _, _, hQ⟩ := hp i x hx
      have hlt : i < xs.length := (List.getElem?_eq_some_iff.1 hx).1
      exact ⟨D i, by simp [hlt], hQ⟩

theorem elem_int {k : IntKind} {P : Program} {W : World} {e : TypeId} (he : P.underlying e = some (.int k)) : ∀ n cs y, DataW.trod enc P W 0 (fun _ => true) true n e cs = some y → ∃ x, (Kd.int k).K W x cs ∧ cs.length = (Kd.int k).sz ∧ (Lit.int k x).wf = true := by
  intro n cs y h
  obtain ⟨x, rfl, _, hw⟩ := DataW.trod_int he h
  exact ⟨x, rfl, rfl, hw⟩

theorem elem_bytes {W : World} : ∀ n cs y, DataW.trod enc Try.prog W 0 (fun _ => true) true n 23 cs = some y → ∃ x, (Kd.slice 5 (Kd.int .u8)).K W x cs ∧ cs.length = (Kd.slice 5 (Kd.int .u8)).sz ∧ (IsBytes x ∧ x.length + 1 ≤ Rows.uptoBulk y.1) := by
  intro n cs y h
  obtain ⟨A, c, xs, rfl, hC, hc, _, hz⟩ := open_kd (d := Kd.int .u8) (fun x _ => (Lit.int .u8 x).wf = true) Try.underlying23 (by kernel_rfl) (elem_int Try.underlying5) h
  refine ⟨xs, ⟨A, c, rfl, hc, hC⟩, rfl, ?_, ?_⟩
  · intro x hx
    rcases hz with ⟨_, rfl⟩ | ⟨els, spare, _, hl, hq⟩
    · cases hx
    · obtain ⟨i, hi, rfl⟩ := List.getElem_of_mem hx
      obtain ⟨_, _, hw⟩ := hq i _ (List.getElem?_eq_getElem hi)
      simp [Lit.wf, IntKind.min, IntKind.max, IntKind.signed, IntKind.bits] at hw
      omega
  · rcases hz with ⟨e, rfl⟩ | ⟨els, spare, e, hl, _⟩
    · rw [e]; simp [Rows.uptoBulk]
    · rw [e]
      have h1 := bulk_length els
      have h2 := bulk_slice els spare
      omega

/-- Rows' sizes, each with one for the row. -/
def rowsSize (l : List (List Int)) : Nat := (l.map fun p => 1 + p.length).sum
theorem rowsSize_cons (p : List Int) (l : List (List Int)) : rowsSize (p :: l) = 1 + p.length + rowsSize l := by simp [rowsSize]
theorem bulk_rows : ∀ (xs : List (List Int)) (els : List (DataW H)), els.length = xs.length → (∀ (i : Nat) x, xs[i]? = some x → ∃ y, els[i]? = some y ∧ x.length + 1 ≤ Rows.uptoBulk y) → rowsSize xs ≤ Rows.uptoBulkAll els
  | [], els, _, _ => by simp [rowsSize]
  | x :: xs, [], h, _ => by simp at h
  | x :: xs, y :: els, h, hq => by
    have ih := bulk_rows xs els (by simpa using h) (fun i z hz => by
      obtain ⟨w, hw, hb⟩ := hq (i + 1) z (by simpa using hz)
      exact ⟨w, by simpa using hw, hb⟩)
    obtain ⟨w, hw, hb⟩ := hq 0 x (by simp)
    simp at hw
    subst hw
    rw [rowsSize_cons]
    simp only [Rows.uptoBulkAll]
    omega

theorem open_rows {W : World} {b0 : Nat} {v : Value} {d : DataW H} {p : List MemPlace} (hv : Value.okWide Try.prog W .any b0 40 v) (h : DataW.Trod enc Try.prog W 0 (fun _ => true) true 40 v d p) :
    ∃ (A : Option Addr) (len cap : Nat) (l : List (List Int)), v = .slice A len cap ∧ (Kd.C (Kd.slice 5 (Kd.int .u8)) W A l.length l ∧ l.length ≤ cap) ∧ len = l.length ∧ (∀ x ∈ l, IsBytes x) ∧ rowsSize l ≤ Rows.uptoBulk d := by
  obtain ⟨a, len, cap, rfl⟩ := okWide_slice Try.underlying40 hv
  obtain ⟨fuel, hf⟩ := h
  obtain ⟨A, c, xs, hcs, hC, hc, _, hz⟩ := open_kd (d := Kd.slice 5 (Kd.int .u8)) (fun x y => IsBytes x ∧ x.length + 1 ≤ Rows.uptoBulk y) Try.underlying40 (by kernel_rfl) elem_bytes hf
  simp [Value.cells] at hcs
  obtain ⟨rfl, rfl, rfl⟩ := hcs
  refine ⟨a, _, cap, xs, rfl, ⟨hC, hc⟩, rfl, ?_, ?_⟩
  · intro x hx
    rcases hz with ⟨_, rfl⟩ | ⟨els, spare, _, hl, hq⟩
    · cases hx
    · obtain ⟨i, hi, rfl⟩ := List.getElem_of_mem hx
      obtain ⟨_, _, hw, _⟩ := hq i _ (List.getElem?_eq_getElem hi)
      exact hw
  · rcases hz with ⟨e, rfl⟩ | ⟨els, spare, e, hl, hq⟩
    · simp [rowsSize]
    · have e' : d = .slice els spare := e
      subst e'
      have h1 := bulk_rows xs els hl (fun i x hx => by obtain ⟨y, h1, h2⟩ := hq i x hx; exact ⟨y, h1, h2.2⟩)
      have h2 := bulk_slice els spare
      omega

end Go.Proofs.Ytdnfknphahmofaa.ArgBytes
