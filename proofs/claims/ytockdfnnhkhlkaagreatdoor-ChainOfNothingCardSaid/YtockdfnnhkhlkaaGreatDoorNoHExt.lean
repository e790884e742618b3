/- Extrinsics by value: their cells. -/
import Derived.Test.YtockdfnnhkhlkaaGreatDoorNoHSameCall
import Derived.Deep.MidRow
import Derived.Stop.BytesEq
namespace Go.Proofs.YtockdfnnhkhlkaaGreatDoor.G
open Go.Extern.Stop (cell)
open Go.RowKit Go.Proofs.YtockdfnnhkhlkaaGreatDoorW.PrintWords Go.Proofs.YtockdfnnhkhlkaaGreatDoorW.PrintLast Go.Proofs.YtockdfnnhkhlkaaGreatDoorW.PrintMore
set_option linter.unusedVariables false
set_option linter.unusedSimpArgs false

/-- An extrinsic, plainly. -/
structure Ext where
  kind : Int
  who : Int
  dest : Int
  amt : Int
  rfd : Int
  track : Int
  level : Int
  sum : List UInt8
  vkind : Int
  vaye : Bool
  vlevel : Int
  va : Int
  vn : Int
  vs : Int
  call : S28

def Ext.cells (x : Ext) (A : Option Addr) (c : Nat) : List Value :=
  [.int .i64 x.kind, .int .i64 x.who, .int .i64 x.dest, .int .i64 x.amt, .int .i64 x.rfd, .int .i64 x.track, .int .i64 x.level] ++ (x.sum.map cell ++
  [.int .i64 x.vkind, .bool x.vaye, .int .i64 x.vlevel, .int .i64 x.va, .int .i64 x.vn, .int .i64 x.vs, .int .i64 x.call.f0, .int .i64 x.call.f1, .int .i64 x.call.f2, .slice A x.call.f3.length c])

theorem Ext.tail_at (x : Ext) (A : Option Addr) (c : Nat) (hs : x.sum.length = 32) (j : Nat) : (x.cells A c)[39 + j]? = [Value.int .i64 x.vkind, .bool x.vaye, .int .i64 x.vlevel, .int .i64 x.va, .int .i64 x.vn, .int .i64 x.vs, .int .i64 x.call.f0, .int .i64 x.call.f1, .int .i64 x.call.f2, .slice A x.call.f3.length c][j]? := by
  unfold Ext.cells
  rw [List.getElem?_append_right (by simp; omega), List.getElem?_append_right (by simp; omega)]
  congr 1
  simp; omega
theorem Ext.at_call (x : Ext) (A : Option Addr) (c : Nat) (hs : x.sum.length = 32) {w : World} {g : Nat} (h : w.rangeAt g 0 (x.cells A c)) :
    w.cell? ⟨g, 45, none⟩ = some (.int .i64 x.call.f0) ∧ w.cell? ⟨g, 46, none⟩ = some (.int .i64 x.call.f1) ∧ w.cell? ⟨g, 47, none⟩ = some (.int .i64 x.call.f2) ∧ w.cell? ⟨g, 48, none⟩ = some (.slice A x.call.f3.length c) :=
  ⟨h (39 + 6) _ (x.tail_at A c hs 6), h (39 + 7) _ (x.tail_at A c hs 7), h (39 + 8) _ (x.tail_at A c hs 8), h (39 + 9) _ (x.tail_at A c hs 9)⟩
theorem Ext.cells_length (x : Ext) (A : Option Addr) (c : Nat) (hs : x.sum.length = 32) : (x.cells A c).length = 49 := by
  unfold Ext.cells; simp [hs]
theorem rangeAt_box {w : World} {g t : Nat} {L : List Value} (h : w.heap[g]? = some (.cells L.toArray t (0, 0))) : w.rangeAt g 0 L := fun j v hj => by
  simp only [World.cell?, h]
  simpa using hj
theorem rangeAt_below {w w1 : World} {B g : Nat} {L : List Value} (h : w.rangeAt g 0 L) (hb : Below B w w1) (hg : g < B) : w1.rangeAt g 0 L := fun j v hj => (hb.cell (p := ⟨g, 0 + j, none⟩) hg).trans (h j v hj)

end Go.Proofs.YtockdfnnhkhlkaaGreatDoor.G
