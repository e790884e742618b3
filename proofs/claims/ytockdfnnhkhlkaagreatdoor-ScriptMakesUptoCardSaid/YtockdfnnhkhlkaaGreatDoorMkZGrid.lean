/- The ways over a grid of nothing: they hand over nothing. -/
import Derived.Test.YtockdfnnhkhlkaaGreatDoorMkZRows
namespace Go.Proofs.YtockdfnnhkhlkaaGreatDoor.G
open Go.RowKit Go.Shelf Go.Proofs.YtockdfnnhkhlkaaGreatDoorW Go.Proofs.YtockdfnnhkhlkaaGreatDoorW.PrintWords Go.Proofs.YtockdfnnhkhlkaaGreatDoorW.PrintMore
set_option linter.unusedVariables false
set_option linter.unusedSimpArgs false
attribute [local go_sem] Oper.semAt_some

theorem cell_alloc {w : World} {p : Addr} {v : Value} (h : w.cell? p = some v) (o : Obj) : (w.alloc o).cell? p = some v :=
  (World.cell?_of_block ((below_alloc (Below.refl w.heap.size w) o).block _ (World.block_lt_of_cell? w _ h))).trans h
/-- An iterator that hands over nothing, whatever is done with it. -/
def NoneSeq (n : Nat) (g : Nat) (lb : Array Value) (w : World) : Prop :=
  ∀ (l : Nat) (W : World), Below w.heap.size w W → CallsIn Fence.wide n Tryz.prog g (#[.func (.yield l) #[] #[]] ++ lb) W fun e W' => (∃ v, e = .returned v) ∧ Below W.heap.size W W'
def noVals (k : Nat) : Empty → Array Value := fun x => x.elim
theorem NoneSeq.seq {n g : Nat} {lb : Array Value} {w : World} (h : NoneSeq n g lb w) : SeqT Fence.wide n Tryz.prog g lb (noVals 0) (fun _ _ => True) (fun _ _ _ _ => False) (fun _ => True) (fun _ => False) 0 w := by
  intro l J Jx W hW hJ _ _ h0
  refine (h _ W hW).mono ?_
  rintro e W' ⟨hv, hb⟩
  exact ⟨hv, .inl ⟨[], trivial, abides_below hJ h0 hb⟩⟩
/-- A range over it: what comes behind, in a world that has only grown. -/
theorem wpIn_range_none {n : Nat} {w : World} {g : Operand} {ps : Array Tmp} {assign body : Code} {Q : Exit → Act → World → Prop} {a : Act} (h1 : 1 ≤ n) {gf : Nat} {lb : Array Value}
    (hg : a.eval g = .func (.func gf) #[] lb) (eg : ∀ args w, (callFunc gf args).run Tryz.prog w = .ok (.enter gf args) w) (hseq : NoneSeq (n - 1) gf lb w)
    (hdone : ∀ (D : Nat) (W : World), w.heap.size ≤ D → Below w.heap.size w W → W.heap[D]? = some (.deferred (some [])) → Q .normal { a with defers := { target := .collected D, args := #[] } :: a.defers } W) :
    (Code.rangeFunc g ps assign body).wpIn Fence.wide n Tryz.prog Q a w :=
  wpIn_rangeFunc_T rfl h1 (gf := gf) (lb := lb) hg trivial eg hseq.seq (fun _ x => x.elim) (fun _ _ => trivial) (fun _ _ _ _ _ _ _ _ => trivial) (Below.refl _ _) (fun x => x.elim)
    (fun _ W => Below w.heap.size w W) (fun _ _ _ => False) (ownFrom_below (Nat.le_refl _) (Nat.le_refl _)) (fun _ _ _ _ _ hs _ _ => hs) (Below.refl _ _) (fun x => x.elim)
    (fun _ x => x.elim) (fun _ _ x => x.elim) (fun D xs W hD _ hI hK => hdone D W hD hI hK) (fun _ _ _ _ _ h _ _ => h.elim)

set_option maxHeartbeats 1000000 in
theorem cells1_in (n : Nat) (l : Nat) (Bx g : Nat) (W : World) (h1 : W.cell? ⟨Bx, 0, none⟩ = some (.pointer (some ⟨g, 0, none⟩))) (h2 : W.cell? ⟨g, 0, none⟩ = some (.slice none 0 0)) :
    CallsIn Fence.wide n Tryz.prog 251 #[.func (.yield l) #[] #[], .pointer (some ⟨Bx, 0, none⟩)] W fun e W' => (∃ v, e = .returned v) ∧ W' = W := by
  refine callsIn_of_wp Tryz.func251 rfl trivial ?_ rfl
  simp only [Tryz.ntmps251, List.size_toArray, List.length_cons, List.length_nil, Nat.reduceAdd, Nat.reduceSub, Array.replicate_succ, Array.replicate_zero, List.push_toArray, List.append_toArray, List.nil_append, List.cons_append]
  gi_wp2
  gi_loopw [12] (fun i wr => i = .int .i64 0 ∧ wr = W) (fun _ _ => 0)
  case atStart => exact ⟨rfl, rfl⟩
  case round =>
    obtain ⟨rfl, rfl⟩ := hrel
    gi_wp2
    refine bodyPost_end (v := .tuple #[]) (results_none rfl _ _ _) rfl ?_
    exact ⟨⟨_, rfl⟩, rfl⟩
theorem cells1_none (n : Nat) (Bx g : Nat) (w : World) (h1 : w.cell? ⟨Bx, 0, none⟩ = some (.pointer (some ⟨g, 0, none⟩))) (h2 : w.cell? ⟨g, 0, none⟩ = some (.slice none 0 0)) :
    NoneSeq n 251 #[.pointer (some ⟨Bx, 0, none⟩)] w := by
  intro l W hW
  refine (cells1_in n l Bx g W ((World.cell?_of_block (hW.block _ (World.block_lt_of_cell? w _ h1))).trans h1) ((World.cell?_of_block (hW.block _ (World.block_lt_of_cell? w _ h2))).trans h2)).mono ?_
  rintro e W' ⟨hv, rfl⟩
  exact ⟨hv, Below.refl _ _⟩

set_option maxHeartbeats 1000000 in
theorem cells_in (n : Nat) (v : Option Addr) (w : World) :
    CallsIn Fence.wide n Tryz.prog 227 #[.pointer v] w fun e w' => e = .returned (.func (.func 251) #[] #[.pointer (some ⟨w.heap.size, 0, none⟩)]) ∧ w' = w.alloc (.cells #[.pointer v] 135) := by
  refine callsIn_of_wp Tryz.func227 rfl trivial ?_ rfl
  simp only [Tryz.ntmps227, List.size_toArray, List.length_cons, List.length_nil, Nat.reduceAdd, Nat.reduceSub, Array.replicate_succ, Array.replicate_zero, List.push_toArray, List.append_toArray, List.nil_append, List.cons_append]
  gi_wp2
  go_ret
  exact ⟨rfl, rfl⟩

set_option maxHeartbeats 1000000 in
theorem along1_none (n : Nat) (hn : 4 ≤ n) (B1 B2 B3 g : Nat) (w : World) (h1 : w.cell? ⟨B1, 0, none⟩ = some (.pointer (some ⟨g, 0, none⟩))) (h2 : w.cell? ⟨g, 0, none⟩ = some (.slice none 0 0)) :
    NoneSeq n 226 #[.pointer (some ⟨B1, 0, none⟩), .pointer (some ⟨B2, 0, none⟩), .pointer (some ⟨B3, 0, none⟩)] w := by
  intro l W hW
  have hn1 : 1 ≤ n := by omega
  have h1' := (World.cell?_of_block (hW.block _ (World.block_lt_of_cell? w _ h1))).trans h1
  have h2' := (World.cell?_of_block (hW.block _ (World.block_lt_of_cell? w _ h2))).trans h2
  refine callsIn_of_wp_marks Tryz.func226 rfl trivial ?_ rfl
  simp only [Tryz.ntmps226, List.size_toArray, List.length_cons, List.length_nil, Nat.reduceAdd, Nat.reduceSub, Array.replicate_succ, Array.replicate_zero, List.push_toArray, List.append_toArray, List.nil_append, List.cons_append]
  have h1x := cell_alloc h1' (.cells #[.func (.yield l) #[] #[]] 326)
  have h2x := cell_alloc h2' (.cells #[.func (.yield l) #[] #[]] 326)
  gi_wp2_with (refine ⟨trivial, ?_⟩; gi_at_call 227; refine (cells_in _ _ _).mono ?_; rintro e w' ⟨rfl, rfl⟩)
  refine wpIn_range_none (n := n) (by omega) (gf := 251) (lb := #[.pointer (some ⟨W.heap.size + 1, 0, none⟩)]) rfl (enters_of Tryz.func251 (by kernel_rfl) rfl) (cells1_none _ _ g _ ?_ ?_) ?_
  · exact blk_cell (by have := blk_new (W.alloc (.cells #[.func (.yield l) #[] #[]] 326)) (.cells #[.pointer (some ⟨g, 0, none⟩)] 135); rwa [World.size_alloc] at this) 0
  · exact cell_alloc h2x _
  · intro D W2 hD hB hK
    refine ⟨by simp, .inl ⟨_, _, rfl, run_takeDeferred hK, ?_⟩⟩
    refine ⟨_, results_none rfl _ _ _, ⟨_, rfl⟩, ?_⟩
    have h0 := below_alloc (below_alloc (Below.refl W.heap.size W) (.cells #[.func (.yield l) #[] #[]] 326)) (.cells #[.pointer (some ⟨g, 0, none⟩)] 135)
    exact (h0.trans (hB.mono h0.size)).trans (belowK_b (w := W) (Nat.le_refl _) W2 D _ _ (Nat.le_trans h0.size hD) hK rfl rfl)

set_option maxHeartbeats 1000000 in
theorem along_in (n : Nat) (g : Option Addr) (s a : Int) (w : World) :
    CallsIn Fence.wide n Tryz.prog 193 #[.pointer g, .int .i64 s, .int .i64 a] w fun e w' => e = .returned (.func (.func 226) #[] #[.pointer (some ⟨w.heap.size, 0, none⟩), .pointer (some ⟨w.heap.size + 1, 0, none⟩), .pointer (some ⟨w.heap.size + 1 + 1, 0, none⟩)]) ∧
      w' = ((w.alloc (.cells #[.pointer g] 135)).alloc (.cells #[.int .i64 s] 3)).alloc (.cells #[.int .i64 a] 3) := by
  refine callsIn_of_wp Tryz.func193 rfl trivial ?_ rfl
  simp only [Tryz.ntmps193, List.size_toArray, List.length_cons, List.length_nil, Nat.reduceAdd, Nat.reduceSub, Array.replicate_succ, Array.replicate_zero, List.push_toArray, List.append_toArray, List.nil_append, List.cons_append]
  gi_wp2
  go_ret
  exact ⟨rfl, rfl⟩
set_option maxHeartbeats 1000000 in
theorem row_in (n : Nat) (hn : 1 ≤ n) (g : Option Addr) (a : Int) (w : World) :
    CallsIn Fence.wide n Tryz.prog 147 #[.pointer g, .int .i64 a] w fun e w' => e = .returned (.func (.func 226) #[] #[.pointer (some ⟨w.heap.size, 0, none⟩), .pointer (some ⟨w.heap.size + 1, 0, none⟩), .pointer (some ⟨w.heap.size + 1 + 1, 0, none⟩)]) ∧
      w' = ((w.alloc (.cells #[.pointer g] 135)).alloc (.cells #[.int .i64 0] 3)).alloc (.cells #[.int .i64 a] 3) := by
  refine callsIn_of_wp Tryz.func147 rfl trivial ?_ rfl
  simp only [Tryz.ntmps147, List.size_toArray, List.length_cons, List.length_nil, Nat.reduceAdd, Nat.reduceSub, Array.replicate_succ, Array.replicate_zero, List.push_toArray, List.append_toArray, List.nil_append, List.cons_append]
  gi_wp2_with (refine ⟨trivial, ?_⟩; gi_at_call 193; refine (along_in _ _ _ _ _).mono ?_; rintro e w' ⟨rfl, rfl⟩)
  go_ret
  exact ⟨rfl, rfl⟩

set_option maxHeartbeats 1000000 in
theorem all_in (n : Nat) (hn : 2 ≤ n) (r g : Nat) (w : World) (hg : w.cell? ⟨r, 1, none⟩ = some (.pointer (some ⟨g, 0, none⟩))) (hl : w.cell? ⟨g, 0, none⟩ = some (.slice none 0 0)) :
    CallsIn Fence.wide n Tryz.prog 82 #[.pointer (some ⟨r, 0, none⟩)] w fun e w' => ∃ lb, e = .returned (.func (.func 226) #[] lb) ∧ (∀ m, 4 ≤ m → NoneSeq m 226 lb w') ∧ Below w.heap.size w w' := by
  have hn1 : 1 ≤ n := by omega
  refine callsIn_of_wp Tryz.func82 rfl trivial ?_ rfl
  simp only [Tryz.ntmps82, List.size_toArray, List.length_cons, List.length_nil, Nat.reduceAdd, Nat.reduceSub, Array.replicate_succ, Array.replicate_zero, List.push_toArray, List.append_toArray, List.nil_append, List.cons_append]
  gi_wp2_with (refine ⟨trivial, ?_⟩; gi_at_call 147; refine (row_in _ (by omega) _ _ _).mono ?_; rintro e w' ⟨rfl, rfl⟩)
  go_ret
  refine ⟨_, rfl, fun m hm => along1_none m hm _ _ _ g _ ?_ (cell_alloc (cell_alloc (cell_alloc hl _) _) _), below_alloc (below_alloc (below_alloc (Below.refl _ _) _) _) _⟩
  exact cell_alloc (cell_alloc (blk_cell (blk_new w _) 0) _) _
end Go.Proofs.YtockdfnnhkhlkaaGreatDoor.G
