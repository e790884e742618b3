import Derived.Test.YtpcokihfecbigaaDoorArgBytesB
import Derived.Deep.Slices
/- Slices that came in, of whatever elements, as the printed functions read them; rows of bytes. -/
namespace Go.Proofs.YtpcokihfecbigaaDoor.ArgBytesB
open Go.ChangeShapes Go.WideShapes Go.ChangeAt Go.RowKit Go.Deep Go.Proofs.YtpcokihfecbigaaDoor.G Go.Proofs.YtpcokihfecbigaaDoorW.PrintWords
set_option linter.unusedVariables false
variable {H : Type} {enc : TypeId × Value → H}

/-- A slice, its elements read as d tells them; Q: what is known of each, and of its reading. -/
theorem open_kd {α : Type} {d : Kd α} {P : Program} {W : World} {t e : TypeId} (Q : α → DataW H → Prop) (ht : P.underlying t = some (.slice e)) (hsz : P.cellsOf e = d.sz)
    (elem : ∀ n cs y, DataW.trod enc P W 0 (fun _ => true) true n e cs = some y → ∃ x, d.K W x cs ∧ cs.length = d.sz ∧ Q x y.1)
    {fuel : Nat} {cs : List Value} {z : DataW H × List MemPlace} (h : DataW.trod enc P W 0 (fun _ => true) true fuel t cs = some z) :
    ∃ (A : Option Addr) (c : Nat) (xs : List α), cs = [.slice A xs.length c] ∧ d.C W A xs.length xs ∧ xs.length ≤ c ∧ xs.length ≤ maxLen ∧
      ((z.1 = .nil ∧ xs = []) ∨ ∃ els spare, z.1 = .slice els spare ∧ els.length = xs.length ∧ ∀ (i : Nat) x, xs[i]? = some x → ∃ y, els[i]? = some y ∧ Q x y) := by
  rcases open_slice ht h with ⟨rfl, rfl⟩ | ⟨ad, len, cap, m, n, D, Pl, rfl, _, hl, hm, hmm, rfl, hi⟩
  · exact ⟨none, 0, [], rfl, Kd.C_nil _ _, Nat.le_refl _, Nat.zero_le _, .inl ⟨rfl, rfl⟩⟩
  · have hmle : len ≤ m := by rw [hmm]; split <;> omega
    obtain ⟨xs, hlen, hp⟩ := list_of (P := fun i (x : α) => ∃ cs', d.K W x cs' ∧ cs'.length = d.sz ∧ (∀ j u, cs'[j]? = some u → W.cell? (ad.add (i * d.sz + j)) = some u) ∧ Q x (D i)) len (by
      intro i hlt
      obtain ⟨cs', hc, ht'⟩ := hi i (by omega)
      obtain ⟨x, hK, hl', hQ⟩ := elem n cs' _ ht'
      rw [hsz] at hc
      obtain ⟨_, hcl, hat⟩ := World.cells?_some hc
      refine ⟨x, cs', hK, hl', fun j u hj => ?_, hQ⟩
      have hjl : j < d.sz := by rw [← hl']; exact (List.getElem?_eq_some_iff.1 hj).1
      have := hat j hjl
      rw [← Go.Deep.add_add, this, hj])
    subst hlen
    refine ⟨some ad, cap, xs, rfl, ⟨rfl, by unfold maxLen at hm; omega, fun _ => ⟨ad, rfl, fun j p hj => ?_⟩⟩, hl, Nat.le_trans hl hm, .inr ⟨_, _, rfl, by simp, fun i x hx => ?_⟩⟩
    · obtain ⟨cs', hK, hl', hat, _⟩ := hp j p hj
      exact ⟨cs', hl', hK, hat⟩
    · obtain ⟨_, _, _, _, hQ⟩ := hp i x hx
      have hlt : i < xs.length := (List.getElem?_eq_some_iff.1 hx).1
      exact ⟨D i, by simp [hlt], hQ⟩

theorem elem_int {k : IntKind} {P : Program} {W : World} {e : TypeId} (he : P.underlying e = some (.int k)) : ∀ n cs y, DataW.trod enc P W 0 (fun _ => true) true n e cs = some y → ∃ x, (Kd.int k).K W x cs ∧ cs.length = (Kd.int k).sz ∧ (Lit.int k x).wf = true := by
  intro n cs y h
  obtain ⟨x, rfl, _, hw⟩ := DataW.trod_int he h
  exact ⟨x, rfl, rfl, hw⟩

theorem weights_mem_all {P : Program} {e : TypeId} : ∀ {els : List (DataW H)} {y : DataW H}, y ∈ els → ∀ n ∈ y.weights P e, n ∈ DataW.weightsAll P e els
  | [], _, h, _, _ => by cases h
  | z :: els, y, h, n, hn => by
    unfold DataW.weightsAll
    rcases List.mem_cons.1 h with rfl | h
    · exact List.mem_append_left _ hn
    · exact List.mem_append_right _ (weights_mem_all h n hn)
/-- What a row's reading holds. -/
def RowRead (x : List Int) (y : DataW H) : Prop := (y = .nil ∧ x = []) ∨ ∃ els spare, y = .slice els spare ∧ els.length = x.length
theorem elem_bytes {W : World} : ∀ n cs y, DataW.trod enc Tryd.prog W 0 (fun _ => true) true n 22 cs = some y → ∃ x, (Kd.slice 5 (Kd.int .u8)).K W x cs ∧ cs.length = (Kd.slice 5 (Kd.int .u8)).sz ∧ ((∀ c ∈ x, 0 ≤ c ∧ c < 256) ∧ RowRead x y.1) := by
  intro n cs y h
  obtain ⟨A, c, xs, rfl, hC, hc, hmx, hz⟩ := open_kd (d := Kd.int .u8) (fun x _ => (Lit.int .u8 x).wf = true) Tryd.underlying22 (by kernel_rfl) (elem_int Tryd.underlying5) h
  refine ⟨xs, ⟨A, c, rfl, hc, hC⟩, rfl, ?_, hz.imp id (fun ⟨els, spare, e, hl, _⟩ => ⟨els, spare, e, hl⟩)⟩
  intro x hx
  rcases hz with ⟨_, rfl⟩ | ⟨els, spare, _, hl, hq⟩
  · cases hx
  · obtain ⟨i, hi, rfl⟩ := List.getElem_of_mem hx
    obtain ⟨_, _, hw⟩ := hq i _ (List.getElem?_eq_getElem hi)
    simp [Lit.wf, IntKind.min, IntKind.max, IntKind.signed, IntKind.bits] at hw
    omega

theorem open_rows {W : World} {b0 : Nat} {v : Value} {d : DataW H} {p : List MemPlace} (hv : Value.okWide Tryd.prog W .any b0 31 v) (h : DataW.Trod enc Tryd.prog W 0 (fun _ => true) true 31 v d p)
    (hsz : ∀ n ∈ d.weights Tryd.prog 31, n ≤ reachBytes) :
    ∃ (A : Option Addr) (len cap : Nat) (l : List (List Int)), v = .slice A len cap ∧ (Kd.C (Kd.slice 5 (Kd.int .u8)) W A l.length l ∧ l.length ≤ cap) ∧ len = l.length ∧ (∀ x ∈ l, (∀ c ∈ x, 0 ≤ c ∧ c < 256) ∧ x.length ≤ 140737488355328) := by
  obtain ⟨a, len, cap, rfl⟩ := okWide_slice Tryd.underlying31 hv
  obtain ⟨fuel, hf⟩ := h
  obtain ⟨A, c, xs, hcs, hC, hc, _, hz⟩ := open_kd (d := Kd.slice 5 (Kd.int .u8)) (fun x y => (∀ c ∈ x, 0 ≤ c ∧ c < 256) ∧ RowRead x y) Tryd.underlying31 (by kernel_rfl) elem_bytes hf
  simp [Value.cells] at hcs
  obtain ⟨rfl, rfl, rfl⟩ := hcs
  refine ⟨a, _, cap, xs, rfl, ⟨hC, hc⟩, rfl, ?_⟩
  intro x hx
  rcases hz with ⟨_, rfl⟩ | ⟨els, spare, hd, hl, hq⟩
  · cases hx
  · obtain ⟨i, hi, rfl⟩ := List.getElem_of_mem hx
    obtain ⟨y, hy, hb, hr⟩ := hq i _ (List.getElem?_eq_getElem hi)
    refine ⟨hb, ?_⟩
    rcases hr with ⟨_, e⟩ | ⟨es, sp, rfl, he⟩
    · rw [e]; simp
    · have hw : (es.length + sp.length) * Tryd.prog.bytesOf 5 ∈ d.weights Tryd.prog 31 := by
        have hd' : d = .slice els spare := hd
        rw [hd']
        unfold DataW.weights
        rw [Tryd.underlying31]
        refine List.mem_cons_of_mem _ (List.mem_append_left _ (weights_mem_all (List.mem_of_getElem? hy) _ ?_))
        unfold DataW.weights
        rw [Tryd.underlying22]
        exact List.mem_cons_self
      have h1 := hsz _ hw
      rw [show Tryd.prog.bytesOf 5 = 1 by kernel_rfl] at h1
      unfold reachBytes at h1
      omega

end Go.Proofs.YtpcokihfecbigaaDoor.ArgBytesB
