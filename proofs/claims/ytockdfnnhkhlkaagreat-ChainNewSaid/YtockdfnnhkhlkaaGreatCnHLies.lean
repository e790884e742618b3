/- Values that lie in a block of their own, from its head on, and may be written: what a store of one cell, of a stretch, turns. -/
import Derived.Test.YtockdfnnhkhlkaaGreatCnGx0
import Derived.OneCell
import Derived.Laws.Tables
import Derived.Deep.MidRow
namespace Go.Proofs.YtockdfnnhkhlkaaGreat.G
open Go.RowKit Go.Proofs.YtockdfnnhkhlkaaGreatW.PrintWords Go.Proofs.YtockdfnnhkhlkaaGreatW.PrintMore
set_option linter.unusedVariables false
set_option linter.unusedSimpArgs false

structure Lies (w : World) (g : Nat) (L : List Value) : Prop where
  range : w.rangeAt g 0 L
  there : w.there g 0 L.length
theorem Lies.cell {w : World} {g : Nat} {L : List Value} (h : Lies w g L) {i : Nat} {v : Value} (hi : L[i]? = some v) : w.cell? ⟨g, i, none⟩ = some v := by
  have := h.range i v hi
  rwa [Nat.zero_add] at this
theorem Lies.frozen {w : World} {g : Nat} {L : List Value} (h : Lies w g L) (i : Nat) (hi : i < L.length) : w.frozen? ⟨g, i, none⟩ = false := by
  have := (h.there i hi).2
  rwa [Nat.zero_add] at this
theorem Lies.box {w : World} {g t : Nat} {L : List Value} (h : w.heap[g]? = some (.cells L.toArray t (0, 0))) : Lies w g L :=
  ⟨fun j v hj => by simp only [World.cell?, h]; simpa using hj, fun j hj => by
    constructor
    · rw [Nat.zero_add, blk_cell h j]; simp [hj]
    · rw [Nat.zero_add]; exact blk_frozen h j⟩
theorem Lies.splice {w : World} {g : Nat} {L : List Value} (h : Lies w g L) (o : Nat) (vs : List Value) (ho : o + vs.length ≤ L.length) : Lies (w.setCells g o vs) g (L.take o ++ vs ++ L.drop (o + vs.length)) := by
  have hlen : (L.take o ++ vs ++ L.drop (o + vs.length)).length = L.length := by simp; omega
  refine ⟨fun j v hj => ?_, by rw [hlen]; exact World.there_setCells h.there g o _⟩
  rw [Nat.zero_add]
  by_cases h1 : j < o
  · rw [List.append_assoc, List.getElem?_append_left (by simp; omega), List.getElem?_take_of_lt h1] at hj
    rw [World.cell?_setCells_out g _ o w ⟨g, j, none⟩ (fun _ _ => .inl h1)]
    exact h.cell hj
  · by_cases h2 : j < o + vs.length
    · rw [List.append_assoc, List.getElem?_append_right (by simp; omega), List.getElem?_append_left (by simp; omega)] at hj
      obtain ⟨i, rfl⟩ : ∃ i, j = o + i := ⟨j - o, by omega⟩
      have hi : i < vs.length := by omega
      rw [World.cell?_setCells_in g _ o w (fun k hk => by
        have := (h.there (o + k) (by omega)).1
        rwa [Nat.zero_add] at this) i hi]
      rw [← hj, show o + i - (L.take o).length = i by simp; omega, List.getElem?_eq_getElem hi]
    · rw [List.getElem?_append_right (by simp; omega), List.getElem?_drop] at hj
      rw [World.cell?_setCells_out g _ o w ⟨g, j, none⟩ (fun _ _ => .inr (by show o + _ ≤ j; omega))]
      refine h.cell ?_
      rw [← hj]
      congr 1
      simp; omega
theorem Lies.set {w : World} {g : Nat} {L : List Value} (h : Lies w g L) (i : Nat) (hi : i < L.length) (v : Value) : Lies (w.setCell ⟨g, i, none⟩ v) g (L.set i v) := by
  refine ⟨fun j u hj => ?_, by rw [List.length_set]; exact World.there_setCells h.there g i [v]⟩
  rw [Nat.zero_add]
  by_cases e : i = j
  · subst e
    have := (h.there i hi).1
    rw [Nat.zero_add] at this
    rw [List.getElem?_set_self hi] at hj
    cases hj
    obtain ⟨u0, hu0⟩ := Option.isSome_iff_exists.1 this
    exact World.cell?_setCell_same w _ _ hu0
  · rw [List.getElem?_set_ne e] at hj
    rw [World.cell?_setCell_other w _ _ _ (fun q => e (by cases q; rfl))]
    exact h.cell hj
theorem Lies.of_block {w w' : World} {g : Nat} {L : List Value} (h : Lies w g L) (hb : w'.heap[g]? = w.heap[g]?) : Lies w' g L :=
  ⟨fun j u hj => (World.cell?_of_block (a := ⟨g, 0 + j, none⟩) hb).trans (h.range j u hj), fun j hj => by
    have := h.there j hj
    exact ⟨by rw [World.cell?_of_block (a := ⟨g, 0 + j, none⟩) hb]; exact this.1, by rw [World.frozen?_of_block (a := ⟨g, 0 + j, none⟩) hb]; exact this.2⟩⟩
theorem Lies.set_far {w : World} {g b : Nat} {L : List Value} (h : Lies w g L) (hne : g ≠ b) (i : Nat) (v : Value) : Lies (w.setCell ⟨b, i, none⟩ v) g L := h.of_block (Below.heap_setCell w ⟨b, i, none⟩ v g hne)
theorem setCells_far {b k : Nat} (hne : k ≠ b) : ∀ (L : List Value) (o : Nat) (w : World), (w.setCells b o L).heap[k]? = w.heap[k]?
  | [], _, _ => rfl
  | v :: L, o, w => (setCells_far hne L (o + 1) _).trans (Below.heap_setCell w ⟨b, o, none⟩ v k hne)
theorem Lies.splice_far {w : World} {g b : Nat} {L : List Value} (h : Lies w g L) (hne : g ≠ b) (o : Nat) (vs : List Value) : Lies (w.setCells b o vs) g L := h.of_block (setCells_far hne vs o w)
theorem Lies.drew {w : World} {g : Nat} {L : List Value} (h : Lies w g L) : Lies w.drew g L := ⟨(World.rangeAt_drew _ _ _ _).2 h.range, (World.there_drew _ _ _ _).2 h.there⟩
theorem Lies.lt {w : World} {g : Nat} {L : List Value} (h : Lies w g L) (h0 : 0 < L.length) : g < w.heap.size := World.block_lt_of_cell? w _ (h.cell (List.getElem?_eq_getElem h0))
theorem Lies.below {w w' : World} {g B : Nat} {L : List Value} (h : Lies w g L) (hb : Below B w w') (hg : g < B) : Lies w' g L := h.of_block (hb.block g hg)
end Go.Proofs.YtockdfnnhkhlkaaGreat.G
