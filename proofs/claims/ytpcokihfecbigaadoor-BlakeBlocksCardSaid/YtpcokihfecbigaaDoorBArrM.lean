/- More of arrays of words: a stretch laid over, copy. -/
import Derived.Test.YtpcokihfecbigaaDoorBArr
import Derived.Laws.IdiomCopy
namespace Go.Proofs.YtpcokihfecbigaaDoor.G
open Go.RowKit Go.Proofs.YtpcokihfecbigaaDoorW.PrintWords Go.Proofs.YtpcokihfecbigaaDoorW.PrintLast Go.Proofs.YtpcokihfecbigaaDoorW.PrintMore
set_option linter.unusedVariables false
set_option linter.unusedSimpArgs false
theorem grown_new {w a b : World} {r : Option Nat} {k : Nat} (h : w.grownBy a r) (hk : a.grownBy b (some k)) (hn : w.heap.size ≤ k) : w.grownBy b r :=
  ⟨hk.os.trans h.os, hk.tape.trans h.tape, hk.output.trans h.output, Nat.le_trans h.size hk.size, fun i hi hne => (hk.block i (Nat.lt_of_lt_of_le hi h.size) (by simp; omega)).trans (h.block i hi hne)⟩
theorem grown_setCells {w w' : World} {g : Nat} (o : Nat) (L : List Value) (h : w.grownBy w' (some g)) : w.grownBy (w'.setCells g o L) (some g) := by
  induction L generalizing o w' with
  | nil => exact h
  | cons v L ih => exact ih (o + 1) (grown_set h o v)
theorem addr_add (g o j : Nat) : (⟨g, o, none⟩ : Addr).add j = ⟨g, o + j, none⟩ := by
  unfold Addr.add
  split
  · rename_i h; subst h; rfl
  · rfl
/-- Words laid over a stretch of the array. -/
theorem Arr.splice {w : World} {g : Nat} {V : List Int} (h : Arr w g V) (o : Nat) (vs : List Int) (ho : o + vs.length ≤ V.length) : Arr (w.setCells g o (vs.map (Value.int .u64))) g (V.take o ++ vs ++ V.drop (o + vs.length)) := by
  have hlen : (V.take o ++ vs ++ V.drop (o + vs.length)).length = V.length := by simp; omega
  refine ⟨fun j v hj => ?_, by rw [hlen]; exact World.there_setCells h.there g o _⟩
  rw [Nat.zero_add]
  rw [List.getElem?_map] at hj
  by_cases h1 : j < o
  · rw [List.append_assoc, List.getElem?_append_left (by simp; omega), List.getElem?_take_of_lt h1] at hj
    rw [World.cell?_setCells_out g _ o w ⟨g, j, none⟩ (fun _ _ => .inl h1)]
    have := h.range j v (by rw [List.getElem?_map]; exact hj)
    rwa [Nat.zero_add] at this
  · by_cases h2 : j < o + vs.length
    · rw [List.append_assoc, List.getElem?_append_right (by simp; omega), List.getElem?_append_left (by simp; omega)] at hj
      obtain ⟨i, rfl⟩ : ∃ i, j = o + i := ⟨j - o, by omega⟩
      have hi : i < (vs.map (Value.int .u64)).length := by rw [List.length_map]; omega
      rw [World.cell?_setCells_in g _ o w (fun k hk => by
        have := (h.there (o + k) (by rw [List.length_map] at hk; omega)).1
        rwa [Nat.zero_add] at this) i hi]
      rw [← hj, show o + i - (V.take o).length = i by simp; omega, List.getElem?_eq_getElem (by rw [List.length_map] at hi; exact hi)]
      simp
    · rw [List.getElem?_append_right (by simp; omega), List.getElem?_drop] at hj
      rw [World.cell?_setCells_out g _ o w ⟨g, j, none⟩ (fun _ _ => .inr (by show o + _ ≤ j; rw [List.length_map]; omega))]
      have := h.range j v (by
        rw [List.getElem?_map, ← hj]
        congr 2
        simp; omega)
      rwa [Nat.zero_add] at this
theorem Arr.copied {P : Program} {w : World} {g gs : Nat} {V : List Int} (h : Arr w g V) (o : Nat) (vs : List Int) (ho : o + vs.length ≤ V.length) (dT sT ty elem : TypeId) (dLen dCap sLen sCap : Nat)
    (hu : P.underlying dT = some (.slice elem)) (hs : (P.info? elem).map (·.size) = some 1) (hn : vs.length = Nat.min sLen dLen) (hsrc : w.rangeAt gs 0 (vs.map (Value.int .u64))) :
    (Builtin.copy_ #[dT, sT] ty #[.slice (some ⟨g, o, none⟩) dLen dCap, .slice (some ⟨gs, 0, none⟩) sLen sCap]).run P w = .ok (goInt vs.length) (w.setCells g o (vs.map (Value.int .u64))) := by
  have := run_copy_cells (P := P) w dT sT ty elem g o dLen dCap ⟨gs, 0, none⟩ sLen sCap (vs.map (Value.int .u64)) hu hs (by rw [List.length_map]; exact hn)
    (fun j v hj => by rw [addr_add]; exact hsrc j v hj)
    (fun j hj => by
      rw [List.length_map] at hj
      have := (h.there (o + j) (by omega)).1
      rwa [Nat.zero_add] at this)
    (fun j hj => by
      rw [List.length_map] at hj
      have := (h.there (o + j) (by omega)).2
      rwa [Nat.zero_add] at this)
    (fun v hv => by
      obtain ⟨x, _, rfl⟩ := List.mem_map.1 hv
      rfl)
  rwa [List.length_map] at this
theorem Arr.take {w : World} {g : Nat} {V : List Int} (h : Arr w g V) (n : Nat) : w.rangeAt g 0 ((V.take n).map (Value.int .u64)) := fun j v hj => by
  rw [List.getElem?_map] at hj
  refine h.range j v ?_
  rw [List.getElem?_map]
  by_cases hn : j < n
  · rwa [List.getElem?_take_of_lt hn] at hj
  · rw [List.getElem?_eq_none (by simp; omega)] at hj; cases hj
theorem rangeAt_block {w w' : World} {g : Nat} {L : List Value} (h : w.rangeAt g 0 L) (hb : w'.heap[g]? = w.heap[g]?) : w'.rangeAt g 0 L := fun j u hj => (World.cell?_of_block (a := ⟨g, 0 + j, none⟩) hb).trans (h j u hj)

end Go.Proofs.YtpcokihfecbigaaDoor.G
