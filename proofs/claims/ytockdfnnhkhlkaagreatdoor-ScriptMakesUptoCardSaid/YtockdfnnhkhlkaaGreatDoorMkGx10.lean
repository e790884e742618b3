/- Slices that came in, of whatever elements, as the printed functions read them; rows of bytes. -/
import Derived.Test.YtockdfnnhkhlkaaGreatDoorMkArgBytes
import Derived.Test.YtockdfnnhkhlkaaGreatDoorMkFrameUpto
import Derived.Deep.Slices
import Derived.Test.YtockdfnnhkhlkaaGreatDoorMkHStep
import Derived.Test.YtockdfnnhkhlkaaGreatDoorMkGx7
namespace Go.Proofs.YtockdfnnhkhlkaaGreatDoor.ArgBytes
open Go.ChangeShapes Go.WideShapes Go.ChangeAt Go.RowKit Go.Deep Go.Proofs.YtockdfnnhkhlkaaGreatDoor.G Go.Proofs.YtockdfnnhkhlkaaGreatDoor.PNum Go.Proofs.YtockdfnnhkhlkaaGreatDoor.Frame Go.Proofs.YtockdfnnhkhlkaaGreatDoorW.PrintWords
set_option linter.unusedVariables false
variable {H : Type} {enc : TypeId × Value → H}

/-- A slice, its elements read as d tells them; Q: what is known of each, and of its reading. -/
theorem open_kd {α : Type} {d : Kd α} {P : Program} {W : World} {t e : TypeId} (Q : α → DataW H → Prop) (ht : P.underlying t = some (.slice e)) (hsz : P.cellsOf e = d.sz)
    (elem : ∀ n cs y, DataW.trod enc P W 0 (fun _ => true) true n e cs = some y → ∃ x, d.K W x cs ∧ cs.length = d.sz ∧ Q x y.1)
    {fuel : Nat} {cs : List Value} {z : DataW H × List MemPlace} (h : DataW.trod enc P W 0 (fun _ => true) true fuel t cs = some z) :
    ∃ (A : Option Addr) (c : Nat) (xs : List α), cs = [.slice A xs.length c] ∧ d.C W A xs.length xs ∧ xs.length ≤ c ∧ xs.length ≤ maxLen ∧
      ((z.1 = .nil ∧ xs = []) ∨ ∃ els spare, z.1 = .slice els spare ∧ els.length = xs.length ∧ ∀ (i : Nat) x, xs[i]? = some x → ∃ y, els[i]? = some y ∧ Q x y) := by
  rcases open_slice ht h with ⟨rfl, rfl⟩ | ⟨ad, len, cap, m, n, D, Pl, rfl, _, hl, hm, hmm, rfl, hi⟩
  · exact ⟨none, 0, [], rfl, Kd.C_nil _ _, Nat.le_refl _, Nat.zero_le _, .inl ⟨rfl, rfl⟩⟩
  · have hmle : len ≤ m := by rw [hmm]; split <;> omega
    obtain ⟨xs, hlen, hp⟩ := list_of (P := fun i (x : α) => ∃ cs', d.K W x cs' ∧ cs'.length = d.sz ∧ (∀ j u, cs'[j]? = some u → W.cell? (ad.add (i * d.sz + j)) = some u) ∧ Q x (D i)) len (by
      intro i hlt
      obtain ⟨cs', hc, ht'⟩ := hi i (by omega)
      obtain ⟨x, hK, hl', hQ⟩ := elem n cs' _ ht'
      rw [hsz] at hc
      obtain ⟨_, hcl, hat⟩ := World.cells?_some hc
      refine ⟨x, cs', hK, hl', fun j u hj => ?_, hQ⟩
      have hjl : j < d.sz := by rw [← hl']; exact (List.getElem?_eq_some_iff.1 hj).1
      have := hat j hjl
      rw [← Go.Deep.add_add, this, hj])
    subst hlen
    refine ⟨some ad, cap, xs, rfl, ⟨rfl, by unfold maxLen at hm; omega, fun _ => ⟨ad, rfl, fun j p hj => ?_⟩⟩, hl, Nat.le_trans hl hm, .inr ⟨_, _, rfl, by simp, fun i x hx => ?_⟩⟩
    · obtain ⟨cs', hK, hl', hat, _⟩ := hp j p hj
      exact ⟨cs', hl', hK, hat⟩
    · obtain ⟨_, _, _, _, hQ⟩ := hp i x hx
      have hlt : i < xs.length := (List.getElem?_eq_some_iff.1 hx).1
      exact ⟨D i, by simp [hlt], hQ⟩

theorem elem_int {k : IntKind} {P : Program} {W : World} {e : TypeId} (he : P.underlying e = some (.int k)) : ∀ n cs y, DataW.trod enc P W 0 (fun _ => true) true n e cs = some y → ∃ x, (Kd.int k).K W x cs ∧ cs.length = (Kd.int k).sz ∧ (Lit.int k x).wf = true := by
  intro n cs y h
  obtain ⟨x, rfl, _, hw⟩ := DataW.trod_int he h
  exact ⟨x, rfl, rfl, hw⟩

set_option maxRecDepth 100000 in
theorem elem_bytes {W : World} : ∀ n cs y, DataW.trod enc Tryz.prog W 0 (fun _ => true) true n 50 cs = some y → ∃ x, (Kd.slice 5 (Kd.int .u8)).K W x cs ∧ cs.length = (Kd.slice 5 (Kd.int .u8)).sz ∧ (IsBytes x ∧ x.length + 1 ≤ Rows.uptoBulk y.1) := by
  intro n cs y h
  obtain ⟨A, c, xs, rfl, hC, hc, _, hz⟩ := open_kd (d := Kd.int .u8) (fun x _ => (Lit.int .u8 x).wf = true) Tryz.underlying50 (by kernel_rfl) (elem_int Tryz.underlying5) h
  refine ⟨xs, ⟨A, c, rfl, hc, hC⟩, rfl, ?_, ?_⟩
  · intro x hx
    rcases hz with ⟨_, rfl⟩ | ⟨els, spare, _, hl, hq⟩
    · cases hx
    · obtain ⟨i, hi, rfl⟩ := List.getElem_of_mem hx
      obtain ⟨_, _, hw⟩ := hq i _ (List.getElem?_eq_getElem hi)
      simp [Lit.wf, IntKind.min, IntKind.max, IntKind.signed, IntKind.bits] at hw
      omega
  · rcases hz with ⟨e, rfl⟩ | ⟨els, spare, e, hl, _⟩
    · rw [e]; simp [Rows.uptoBulk]
    · rw [e]
      have h1 := bulk_length els
      have h2 := bulk_slice els spare
      omega

/-- Rows' sizes, each with one for the row. -/
def rowsSize (l : List (List Int)) : Nat := (l.map fun p => 1 + p.length).sum
theorem rowsSize_cons (p : List Int) (l : List (List Int)) : rowsSize (p :: l) = 1 + p.length + rowsSize l := by simp [rowsSize]
theorem bulk_rows : ∀ (xs : List (List Int)) (els : List (DataW H)), els.length = xs.length → (∀ (i : Nat) x, xs[i]? = some x → ∃ y, els[i]? = some y ∧ x.length + 1 ≤ Rows.uptoBulk y) → rowsSize xs ≤ Rows.uptoBulkAll els
  | [], els, _, _ => by simp [rowsSize]
  | x :: xs, [], h, _ => by simp at h
  | x :: xs, y :: els, h, hq => by
    have ih := bulk_rows xs els (by simpa using h) (fun i z hz => by
      obtain ⟨w, hw, hb⟩ := hq (i + 1) z (by simpa using hz)
      exact ⟨w, by simpa using hw, hb⟩)
    obtain ⟨w, hw, hb⟩ := hq 0 x (by simp)
    simp at hw
    subst hw
    rw [rowsSize_cons]
    simp only [Rows.uptoBulkAll]
    omega

set_option maxRecDepth 100000 in
theorem open_rows {W : World} {b0 : Nat} {v : Value} {d : DataW H} {p : List MemPlace} (hv : Value.okWide Tryz.prog W .any b0 51 v) (h : DataW.Trod enc Tryz.prog W 0 (fun _ => true) true 51 v d p) :
    ∃ (A : Option Addr) (len cap : Nat) (l : List (List Int)), v = .slice A len cap ∧ (Kd.C (Kd.slice 5 (Kd.int .u8)) W A l.length l ∧ l.length ≤ cap) ∧ len = l.length ∧ (∀ x ∈ l, IsBytes x) ∧ rowsSize l ≤ Rows.uptoBulk d := by
  obtain ⟨a, len, cap, rfl⟩ := okWide_slice Tryz.underlying51 hv
  obtain ⟨fuel, hf⟩ := h
  obtain ⟨A, c, xs, hcs, hC, hc, _, hz⟩ := open_kd (d := Kd.slice 5 (Kd.int .u8)) (fun x y => IsBytes x ∧ x.length + 1 ≤ Rows.uptoBulk y) Tryz.underlying51 (by kernel_rfl) elem_bytes hf
  simp [Value.cells] at hcs
  obtain ⟨rfl, rfl, rfl⟩ := hcs
  refine ⟨a, _, cap, xs, rfl, ⟨hC, hc⟩, rfl, ?_, ?_⟩
  · intro x hx
    rcases hz with ⟨_, rfl⟩ | ⟨els, spare, _, hl, hq⟩
    · cases hx
    · obtain ⟨i, hi, rfl⟩ := List.getElem_of_mem hx
      obtain ⟨_, _, hw, _⟩ := hq i _ (List.getElem?_eq_getElem hi)
      exact hw
  · rcases hz with ⟨e, rfl⟩ | ⟨els, spare, e, hl, hq⟩
    · simp [rowsSize]
    · have e' : d = .slice els spare := e
      subst e'
      have h1 := bulk_rows xs els hl (fun i x hx => by obtain ⟨y, h1, h2⟩ := hq i x hx; exact ⟨y, h1, h2.2⟩)
      have h2 := bulk_slice els spare
      omega

end Go.Proofs.YtockdfnnhkhlkaaGreatDoor.ArgBytes

-- Laid by this session's own program gprint.py over the kit's print (given functions are proved by hand).
namespace Go.Proofs.YtockdfnnhkhlkaaGreatDoor.G
open Go.RowKit Go.Proofs.YtockdfnnhkhlkaaGreatDoorW.PrintWords Go.Proofs.YtockdfnnhkhlkaaGreatDoorW.PrintLast Go.Proofs.YtockdfnnhkhlkaaGreatDoorW.PrintMore
attribute [local go_sem] max2_int min2_int max_two min_two max_three min_three max_four min_four   -- for this text's walks alone
set_option linter.unusedVariables false
set_option linter.unusedSimpArgs false

/-! ### track_Shares: function 195 -/

/-! ### per_held: function 228 -/

/-! ### per_At: function 196 -/

/-! ### track_Passing: function 148 -/

-- NOT PRINTED: function 83 (refer_Refer_decides)

-- NOT PRINTED: function 39 (refer_Refer_Service)

-- NOT PRINTED: function 10 (chain_Chain_Block)

-- NOT PRINTED: function 156 (code_reader_nums)

-- NOT PRINTED: function 157 (code_reader_raw)

-- NOT PRINTED: function 158 (code_reader_row)

/-! ### code_reader_isWhole: function 159 -/

-- NOT PRINTED: function 200 (code_taken)

-- NOT PRINTED: function 160 (code_DecodeCall)

-- NOT PRINTED: function 101 (code_DecodeExt)

-- NOT PRINTED: function 52 (script_does)

-- NOT PRINTED: function 26 (script_Run)

-- NOT PRINTED: function 20 (althinglaw15_known)

-- NOT PRINTED: function 4 (althinglaw15_ScriptRows)

/-! ### script_Make: function 22 -/
def script_Make.f (k : Nat) (l0 : List (List Int)) : Option (List Int) := (compact_Row.f k ([] : List Int) l0).bind fun t307 => (some t307)
set_option maxHeartbeats 8000000 in
set_option maxRecDepth 100000 in
theorem script_Make.calls (k : Nat) (A0 : Option Addr) (c0 : Nat) (l0 : List (List Int)) (r : List Int) (w : World) (hr0 : Kd.C (Kd.slice 5 (Kd.int .u8)) w A0 l0.length l0) (hc0 : l0.length ≤ c0) (h : script_Make.f k l0 = some r) :
    Calls Tryz.prog 22 #[.slice A0 l0.length c0] w fun e w' => ∃ v0_ : Value, e = .returned (v0_) ∧ Kd.R (Kd.int .u8) 5 w' w.heap.size (fun _ => True) v0_ r ∧ Below w.heap.size w w' := by
  have HR0 := Aside0.mk hr0
  have HC0 := Aside0.mk hc0
  clear hr0 hc0
  have HB := Aside0.mk (Below.refl w.heap.size w)
  have H : ((compact_Row.f k ([] : List Int) l0).bind fun t307 => (some t307)) = some r := h
  clear h
  replace H := Option.bind_eq_some_iff.mp H
  obtain ⟨t307, A20, H⟩ := H
  replace H : (some t307) = some r := H
  have A2 := Aside0.mk A20
  clear A20
  obtain rfl := Option.some.inj H
  go_enter Tryz.func22, Tryz.ntmps22
  go_wp2_with (first | ((with_reducible refine gate_callee (f := 45) rfl ?_); refine goesL_ (some 4) rfl rfl Tryz.func45 (by kernel_rfl) rfl #[.slice none 0 0, .slice A0 l0.length c0] rfl (by (try simp only [List.map_toArray, List.map_cons, List.map_nil]); first | done | rfl | (simp only [List.length_drop, List.length_take]; rfl)) ?_; (refine (compact_Row.calls k _ _ ([] : List Int) _ _ l0 t307 _ ?side1 ?side2 ?side3 ?side4 A2.out).mono ?_); (case side1 => exact Kd.C_nil _ _); (case side2 => exact Nat.le_refl _); (case side3 => repeat (first | exact HR0.out | (with_reducible refine Kd.C_alloc ?_ _) | (with_reducible refine Kd.C_drewN ?_ _) | (with_reducible refine Kd.C_drew ?_))); (case side4 => exact HC0.out); rintro e w3 ⟨v308, rfl, ho0, hb⟩; refine ⟨_, rfl, ?_⟩; have n0_ := Aside0.mk (Kd.R_lower ho0 (below_size (by repeat (first | (with_reducible first | exact HB.out | apply below_alloc | apply pw_below_drewN | apply below_drew1) | exact HB.out)))); have n1_ := Aside0.mk (below_step (by repeat (first | (with_reducible first | exact HB.out | apply below_alloc | apply pw_below_drewN | apply below_drew1) | exact HB.out)) hb); clear HB; have HO309 := n0_; have HB := n1_; clear n0_ n1_; (try clear hb); (try clear hb2); (try clear hk); (try clear hi); (try clear ho0)))
  go_ret
  exact ⟨_, by first | rfl | (simp [errW_none, errW_some] <;> rfl) | (simp [*, errW_none, errW_some] <;> rfl), by (with_reducible repeat (first | apply Kd.R_alloc | apply Kd.R_drewN | apply Kd.R_drew)); exact HO309.out, by repeat (first | (with_reducible first | exact HB.out | apply below_alloc | apply pw_below_drewN | apply below_drew1) | exact HB.out)⟩

-- NOT PRINTED: function 6 (althinglaw15_ScriptMakes)

-- NOT PRINTED: function 5 (althinglaw15_ScriptStops)

end Go.Proofs.YtockdfnnhkhlkaaGreatDoor.G
