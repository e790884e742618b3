/- Extrinsics by value: their cells. -/
import Derived.Test.YtilckocpgififaaDoorScHSameCall
import Derived.Deep.MidRow
import Derived.Stop.BytesEq
namespace Go.Proofs.YtilckocpgififaaDoor.G
open Go.Extern.Stop (cell)
open Go.RowKit Go.Proofs.YtilckocpgififaaDoorW.PrintWords Go.Proofs.YtilckocpgififaaDoorW.PrintLast Go.Proofs.YtilckocpgififaaDoorW.PrintMore
set_option linter.unusedVariables false
set_option linter.unusedSimpArgs false
structure Ext where
 kind : Int
 who : Int
 dest : Int
 amt : Int
 rfd : Int
 track : Int
 level : Int
 sum : List UInt8
 vkind : Int
 vaye : Bool
 vlevel : Int
 va : Int
 vn : Int
 vs : Int
 call : S24
def Ext.cells (x : Ext) (A : Option Addr) (c : Nat) : List Value:=
 [.int .i64 x.kind,.int .i64 x.who,.int .i64 x.dest,.int .i64 x.amt,.int .i64 x.rfd,.int .i64 x.track,.int .i64 x.level] ++ (x.sum.map cell ++
 [.int .i64 x.vkind,.bool x.vaye,.int .i64 x.vlevel,.int .i64 x.va,.int .i64 x.vn,.int .i64 x.vs,.int .i64 x.call.f0,.int .i64 x.call.f1,.int .i64 x.call.f2,.slice A x.call.f3.length c])
theorem Ext.at_head (x : Ext) (A : Option Addr) (c : Nat) {w : World} {g : Nat} (h : w.rangeAt g 0 (x.cells A c)) :
 w.cell? ⟨g,0,none⟩ = some (.int .i64 x.kind) ∧ w.cell? ⟨g,1,none⟩ = some (.int .i64 x.who) ∧ w.cell? ⟨g,2,none⟩ = some (.int .i64 x.dest) ∧ w.cell? ⟨g,3,none⟩ = some (.int .i64 x.amt) ∧ w.cell? ⟨g,4,none⟩ = some (.int .i64 x.rfd) ∧ w.cell? ⟨g,5,none⟩ = some (.int .i64 x.track) ∧ w.cell? ⟨g,6,none⟩ = some (.int .i64 x.level):=
 ⟨h 0 _ rfl,h 1 _ rfl,h 2 _ rfl,h 3 _ rfl,h 4 _ rfl,h 5 _ rfl,h 6 _ rfl⟩
theorem Ext.at_sum (x : Ext) (A : Option Addr) (c : Nat) {w : World} {g : Nat} (h : w.rangeAt g 0 (x.cells A c)) : w.rangeAt g 7 (x.sum.map cell):=fun j v hj=>by
 have:=h (7 + j) v (by
  unfold Ext.cells
  rw [List.getElem?_append_right (by simp)];have hlt:=(List.getElem?_eq_some_iff.1 hj).1;simp only [List.length_cons,List.length_nil];rw [show 7 + j - (0 + 1 + 1 + 1 + 1 + 1 + 1 + 1) = j by omega,List.getElem?_append_left hlt]
  exact hj)
 rwa [Nat.zero_add] at this
theorem Ext.tail_at (x : Ext) (A : Option Addr) (c : Nat) (hs : x.sum.length = 32) (j : Nat) : (x.cells A c)[39 + j]? = [Value.int .i64 x.vkind,.bool x.vaye,.int .i64 x.vlevel,.int .i64 x.va,.int .i64 x.vn,.int .i64 x.vs,.int .i64 x.call.f0,.int .i64 x.call.f1,.int .i64 x.call.f2,.slice A x.call.f3.length c][j]? :=by
 unfold Ext.cells
 rw [List.getElem?_append_right (by simp;omega),List.getElem?_append_right (by simp;omega)]
 congr 1
 simp;omega
theorem Ext.at_vote (x : Ext) (A : Option Addr) (c : Nat) (hs : x.sum.length = 32) {w : World} {g : Nat} (h : w.rangeAt g 0 (x.cells A c)) :
 w.cell? ⟨g,39,none⟩ = some (.int .i64 x.vkind) ∧ w.cell? ⟨g,40,none⟩ = some (.bool x.vaye) ∧ w.cell? ⟨g,41,none⟩ = some (.int .i64 x.vlevel) ∧ w.cell? ⟨g,42,none⟩ = some (.int .i64 x.va) ∧ w.cell? ⟨g,43,none⟩ = some (.int .i64 x.vn) ∧ w.cell? ⟨g,44,none⟩ = some (.int .i64 x.vs):=
 ⟨h (39 + 0) _ (x.tail_at A c hs 0),h (39 + 1) _ (x.tail_at A c hs 1),h (39 + 2) _ (x.tail_at A c hs 2),h (39 + 3) _ (x.tail_at A c hs 3),h (39 + 4) _ (x.tail_at A c hs 4),h (39 + 5) _ (x.tail_at A c hs 5)⟩
theorem Ext.at_call (x : Ext) (A : Option Addr) (c : Nat) (hs : x.sum.length = 32) {w : World} {g : Nat} (h : w.rangeAt g 0 (x.cells A c)) :
 w.cell? ⟨g,45,none⟩ = some (.int .i64 x.call.f0) ∧ w.cell? ⟨g,46,none⟩ = some (.int .i64 x.call.f1) ∧ w.cell? ⟨g,47,none⟩ = some (.int .i64 x.call.f2) ∧ w.cell? ⟨g,48,none⟩ = some (.slice A x.call.f3.length c):=
 ⟨h (39 + 6) _ (x.tail_at A c hs 6),h (39 + 7) _ (x.tail_at A c hs 7),h (39 + 8) _ (x.tail_at A c hs 8),h (39 + 9) _ (x.tail_at A c hs 9)⟩
theorem Ext.cells_length (x : Ext) (A : Option Addr) (c : Nat) (hs : x.sum.length = 32) : (x.cells A c).length = 49:=by
 unfold Ext.cells;simp [hs]
theorem Ext.cells_one (x : Ext) (A : Option Addr) (c : Nat) : ∀ v ∈ x.cells A c,v.oneCell' = true:=by
 unfold Ext.cells
 intro v hv;simp only [List.mem_append,List.mem_cons,List.mem_map,List.not_mem_nil,or_false] at hv
 rcases hv with (rfl | rfl | rfl | rfl | rfl | rfl | rfl) | (⟨b,_,rfl⟩ | rfl | rfl | rfl | rfl | rfl | rfl | rfl | rfl | rfl | rfl) <;> rfl
theorem rangeAt_boxN {w : World} {g t : Nat} {L : List Value} (h : w.heap[g]? = some (.cells L.toArray t (0,0))) : w.rangeAt g 0 L:=fun j v hj=>by
 simp only [World.cell?,h]
 simpa using hj
theorem rangeAt_belowN {w w1 : World} {B g : Nat} {L : List Value} (h : w.rangeAt g 0 L) (hb : Below B w w1) (hg : g < B) : w1.rangeAt g 0 L:=fun j v hj=>(hb.cell (p:=⟨g,0 + j,none⟩) hg).trans (h j v hj)
theorem info_hash : (Tryd.prog.info? 31).map (·.size) = some 32:=by kernel_rfl
theorem size_u8 : ∀ w,(sizeOf 5).run Tryd.prog w = .ok 1 w:=fun w=>by
 obtain ⟨i,hi,_,hs,_⟩:=info_parts info5
 simp [sizeOf,typeInfo,hi,hs,go_sem]
theorem eql_sum (x y : Ext) (hx : x.sum.length = 32) (hy : y.sum.length = 32) : ∀ w,(binOp .eql 31 (.agg (x.sum.map cell).toArray) (.agg (y.sum.map cell).toArray)).run Tryd.prog w = .ok (.bool (x.sum == y.sum)) w:=
 fun w=>run_eql_bytes w 31 5 32 Tryd.underlying31 Tryd.underlying5 size_u8 x.sum y.sum hx hy
def sameX (x y : Ext) : Bool:=decide (x.kind = y.kind) && decide (x.who = y.who) && decide (x.dest = y.dest) && decide (x.amt = y.amt) && decide (x.rfd = y.rfd) && decide (x.track = y.track) && decide (x.level = y.level) && (x.sum == y.sum) &&
 decide (x.vkind = y.vkind ∧ x.vaye = y.vaye ∧ x.vlevel = y.vlevel ∧ x.va = y.va ∧ x.vn = y.vn ∧ x.vs = y.vs)
end Go.Proofs.YtilckocpgififaaDoor.G
