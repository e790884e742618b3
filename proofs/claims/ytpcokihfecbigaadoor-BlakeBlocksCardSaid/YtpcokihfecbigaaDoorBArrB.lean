/- An array of bytes in a block of its own (as BArr of words). -/
import Derived.Test.YtpcokihfecbigaaDoorBArr
namespace Go.Proofs.YtpcokihfecbigaaDoor.G
open Go.RowKit Go.Proofs.YtpcokihfecbigaaDoorW.PrintWords Go.Proofs.YtpcokihfecbigaaDoorW.PrintLast Go.Proofs.YtpcokihfecbigaaDoorW.PrintMore
set_option linter.unusedVariables false
set_option linter.unusedSimpArgs false

/-- The bytes V lie in block g from its head on, and may be written. -/
structure ArrB (w : World) (g : Nat) (V : List Int) : Prop where
  range : w.rangeAt g 0 (V.map (Value.int .u8))
  there : w.there g 0 V.length
theorem ArrB.cell {w : World} {g : Nat} {V : List Int} (h : ArrB w g V) (i : Nat) (hi : i < V.length) : w.cell? ⟨g, i, none⟩ = some (.int .u8 (V.getD i 0)) := by
  have := h.range i (.int .u8 V[i]) (by simp [hi])
  rw [Nat.zero_add] at this
  rw [this, List.getD_eq_getElem?_getD, List.getElem?_eq_getElem hi]; rfl
theorem ArrB.frozen {w : World} {g : Nat} {V : List Int} (h : ArrB w g V) (i : Nat) (hi : i < V.length) : w.frozen? ⟨g, i, none⟩ = false := by
  have := (h.there i hi).2
  rwa [Nat.zero_add] at this
theorem ArrB.set {w : World} {g : Nat} {V : List Int} (h : ArrB w g V) (i : Nat) (hi : i < V.length) (x : Int) : ArrB (w.setCell ⟨g, i, none⟩ (.int .u8 x)) g (V.set i x) := by
  refine ⟨?_, ?_⟩
  · have := arr_set_range h.range (by rw [List.length_map]; exact h.there) i (by rw [List.length_map]; exact hi) (.int .u8 x)
    rw [← List.map_set] at this
    exact this
  · rw [List.length_set]
    exact World.there_setCells h.there g i [.int .u8 x]
theorem ArrB.drew {w : World} {g : Nat} {V : List Int} (h : ArrB w g V) : ArrB w.drew g V := ⟨(World.rangeAt_drew _ _ _ _).2 h.range, (World.there_drew _ _ _ _).2 h.there⟩
theorem ArrB.drewN {w : World} {g : Nat} {V : List Int} (h : ArrB w g V) (n : Nat) : ArrB (w.drewN n) g V := ⟨h.range, h.there⟩
theorem ArrB.of_block {w w' : World} {g : Nat} {V : List Int} (h : ArrB w g V) (hb : w'.heap[g]? = w.heap[g]?) : ArrB w' g V :=
  ⟨fun j u hj => (World.cell?_of_block (a := ⟨g, 0 + j, none⟩) hb).trans (h.range j u hj), fun j hj => by
    have := h.there j hj
    exact ⟨by rw [World.cell?_of_block (a := ⟨g, 0 + j, none⟩) hb]; exact this.1, by rw [World.frozen?_of_block (a := ⟨g, 0 + j, none⟩) hb]; exact this.2⟩⟩
theorem ArrB.lt {w : World} {g : Nat} {V : List Int} (h : ArrB w g V) (h0 : 0 < V.length) : g < w.heap.size := World.block_lt_of_cell? w _ (h.cell 0 h0)
theorem ArrB.below {w w' : World} {g B : Nat} {V : List Int} (h : ArrB w g V) (hb : Below B w w') (hg : g < B) : ArrB w' g V := h.of_block (hb.block g hg)
theorem ArrB.grown {w w' : World} {g : Nat} {row : Option Nat} {V : List Int} (h : ArrB w g V) (h0 : 0 < V.length) (hb : w.grownBy w' row) (hg : some g ≠ row) : ArrB w' g V := h.of_block (hb.block g (h.lt h0) hg)
theorem ArrB.alloc {w : World} {g : Nat} {V : List Int} (h : ArrB w g V) (h0 : 0 < V.length) (o : Obj) : ArrB (w.alloc o) g V := h.of_block (Below.heap_alloc w o g (h.lt h0))

end Go.Proofs.YtpcokihfecbigaaDoor.G
