/- New of grid, voting, pre, agenda: what they lay. -/
import Derived.Test.YtockdfnnhkhlkaaGreatCnHLies
import Derived.Test.YtockdfnnhkhlkaaGreatCnGx0
import Derived.RangeFuncNested
import Derived.RangeFuncBound
import Derived.RangeFuncCalls
import Derived.RangeFuncLeaves
import Derived.RangeFuncBox
import Derived.Shelf.Abstract
import Derived.Shelf.RegionOpen
import Derived.OwnWalkIn
import Derived.TacticsInMore
import Derived.LoopNIn
import Derived.LoopIn
import Derived.IntWalk
import Derived.Lib.Hide
import Derived.WideMake
import Derived.Maps.AppendAt
namespace Go.Proofs.YtockdfnnhkhlkaaGreat.G
open Go.RowKit Go.Shelf Go.Proofs.YtockdfnnhkhlkaaGreatW.PrintWords Go.Proofs.YtockdfnnhkhlkaaGreatW.PrintMore
set_option linter.unusedVariables false
set_option linter.unusedSimpArgs false

set_option maxHeartbeats 1000000 in
theorem gridNew1_calls (w : World) : Calls Tryz.prog 21 #[] w fun e w' => e = .returned (.pointer (some ⟨w.heap.size, 0, none⟩)) ∧ w' = w.alloc (.cells #[.slice none 0 0] 139) := by
  go_enter Tryz.func21, Tryz.ntmps21
  go_wp2
  go_ret
  exact ⟨rfl, rfl⟩

section
variable {P : Program} {ops : Array Oper} {rest : List Oper} {o : Oper} {a : Act} {Q : Exit → Act → World → Prop}
theorem make_map {W : World} (hgd : o.guard = none) (t : TypeId) (ho : o.op = .makeMap t none)
    (h : wpList P ops Q rest (a.put o.dst (.map (some W.heap.size))) (W.alloc (.map #[] 0))) : wpList P ops Q (o :: rest) a W :=
  Kd.event_run (v := .map (some W.heap.size)) (w1 := W.alloc (.map #[] 0)) hgd (by simp [execOp, ho, run_makeMap_plain]) h
end
set_option maxHeartbeats 1000000 in
theorem preNew_calls (w : World) : Calls Tryz.prog 11 #[] w fun e w' => e = .returned (.pointer (some ⟨w.heap.size + 1 + 1, 0, none⟩)) ∧ Below w.heap.size w w' := by
  go_enter Tryz.func11, Tryz.ntmps11
  go_wp2_with (with_reducible refine make_map rfl _ rfl ?_)
  go_ret
  exact ⟨rfl, below_alloc (below_alloc (below_alloc (Below.refl _ _) _) _) _⟩
set_option maxHeartbeats 1000000 in
theorem gridNew2_calls (w : World) : Calls Tryz.prog 28 #[] w fun e w' => e = .returned (.pointer (some ⟨w.heap.size, 0, none⟩)) ∧ w' = w.alloc (.cells #[.slice none 0 0] 145) := by
  go_enter Tryz.func28, Tryz.ntmps28
  go_wp2
  go_ret
  exact ⟨rfl, rfl⟩
set_option maxHeartbeats 1000000 in
theorem agendaNew_calls (w : World) : Calls Tryz.prog 12 #[] w fun e w' => e = .returned (.pointer (some ⟨w.heap.size, 0, none⟩)) ∧ w' = w.alloc (.cells #[.slice none 0 0] 114) := by
  go_enter Tryz.func12, Tryz.ntmps12
  go_wp2
  go_ret
  exact ⟨rfl, rfl⟩
set_option maxHeartbeats 1000000 in
theorem gridNew3_calls (w : World) : Calls Tryz.prog 29 #[] w fun e w' => e = .returned (.pointer (some ⟨w.heap.size, 0, none⟩)) ∧ Below w.heap.size w w' ∧ w'.heap.size = w.heap.size + 1 := by
  go_enter Tryz.func29, Tryz.ntmps29
  go_wp2
  go_ret
  exact ⟨rfl, below_alloc (Below.refl _ _) _, by simp⟩
set_option maxHeartbeats 1000000 in
theorem gridNew4_calls (w : World) : Calls Tryz.prog 30 #[] w fun e w' => e = .returned (.pointer (some ⟨w.heap.size, 0, none⟩)) ∧ Below w.heap.size w w' ∧ w'.heap.size = w.heap.size + 1 := by
  go_enter Tryz.func30, Tryz.ntmps30
  go_wp2
  go_ret
  exact ⟨rfl, below_alloc (Below.refl _ _) _, by simp⟩
set_option maxHeartbeats 2000000 in
theorem votingNew_calls (w : World) : Calls Tryz.prog 10 #[] w fun e w' => ∃ V, e = .returned (.pointer (some ⟨V, 0, none⟩)) ∧ Below w.heap.size w w' := by
  go_enter Tryz.func10, Tryz.ntmps10
  go_wp2_with (first
    | (go_at_call 29; go_loud ((with_reducible refine (gridNew3_calls _).mono ?_); rintro e w1 ⟨rfl, hb1, hs1⟩; have HB1 := Aside0.mk hb1; have HS1 := Aside0.mk hs1; clear hb1 hs1))
    | (go_at_call 30; go_loud ((with_reducible refine (gridNew4_calls _).mono ?_); rintro e w2 ⟨rfl, hb2, hs2⟩; have HB2 := Aside0.mk (HB1.out.trans (hb2.mono HB1.out.size)); clear hb2)))
  go_ret
  exact ⟨_, rfl, below_alloc HB2.out _⟩
end Go.Proofs.YtockdfnnhkhlkaaGreat.G

/- A range over a function whose yielded value leads to memory: what holds of the value where it is handed over (T) is a premise of the round. -/
namespace Go.Proofs.YtockdfnnhkhlkaaGreat.G
open Go.RowKit Go.Shelf
set_option linter.unusedVariables false

/-- An iterator's contract: it hands over values of which T holds at that place; it ends by itself (S), or where a round has said so (Sp). -/
def SeqT {α : Type} (F : Fence) (n : Nat) (P : Program) (g : Nat) (lb : Array Value) (encs : α → Array Value) (Kp : World → World → Prop) (T : List α → α → Nat → World → Prop) (S Sp : List α → Prop) (N : Nat) (w : World) : Prop :=
  ∀ (l : Nat) (J Jx : List α → World → Prop) (W : World), Below w.heap.size w W → AbidesFrom W.heap.size J → AbidesFrom W.heap.size Jx →
    (∀ pre x W0 W1, J pre W0 → pre.length < N → Below W0.heap.size W0 W1 → T pre x W0.heap.size W1 → YieldAt F (n - 1) P l (encs x) W1 fun e W' =>
      (e = .returned (.bool true) ∧ J (pre ++ [x]) W' ∧ Kp W1 W') ∨ (e = .returned (.bool false) ∧ Jx (pre ++ [x]) W')) →
    J [] W →
    CallsIn F n P g (#[.func (.yield l) #[] #[]] ++ lb) W fun e W' => (∃ v, e = .returned v) ∧ ((∃ xs, S xs ∧ J xs W') ∨ (∃ pre, Sp pre ∧ Jx pre W'))

set_option maxHeartbeats 1000000 in
/-- The statement itself, where the assignment turns no memory. -/
theorem wpIn_rangeFunc_T {α : Type} {F : Fence} {n : Nat} {P : Program} {w : World} {g : Operand} {ps : Array Tmp} {assign body : Code} {Q : Exit → Act → World → Prop} {a : Act}
    (hro : F.round = none) (h1 : 1 ≤ n) {gf : Nat} {lb : Array Value} (hg : a.eval g = .func (.func gf) #[] lb) (hFg : F.fn gf) (eg : ∀ args w, (callFunc gf args).run P w = .ok (.enter gf args) w)
    {encs : α → Array Value} {Kp : World → World → Prop} {T : List α → α → Nat → World → Prop} {S Sp : List α → Prop} {N : Nat} {w0 : World} (hseq : SeqT F (n - 1) P gf lb encs Kp T S Sp N w0)
    (hT : ∀ pre x m, OwnFrom w.heap.size (fun (_ : Unit) W => T pre x m W))
    (hKt : ∀ {A B C : World}, Kp A B → Kp B C → Kp A C) (hKb : ∀ (W : World) (l : Nat) (o o' : Obj), w.heap.size ≤ l → W.heap[l]? = some o → o.isCells = false → o.isWalk = false → Kp W (W.putObj l o')) (hb0 : Below w0.heap.size w0 w) (hps : ∀ x, (encs x).size = ps.size)
    (I : List α → World → Prop) (Ix : Code → List α → World → Prop) (hI : OwnFrom w.heap.size I) (hIx : ∀ c, OwnFrom w.heap.size (Ix c)) (h0 : I [] w) (a₁ : α → Act)
    (hassign : ∀ (l : Nat) (x : α) (W : World) (K : Act → World → Prop), K (a₁ x) W →
      assign.wpIn (F.inRound l) (n - 1 - 1) P (Exit.then K (fun _ _ _ => False)) { tmps := (ps.zip (encs x)).foldl (fun t (p, v) => t.setIfInBounds p v) a.tmps, defers := [] } W)
    (hbody : ∀ (l : Nat) (pre : List α) (x : α) (W0 W : World), I pre W0 → Below W0.heap.size W0 W → T pre x W0.heap.size W → pre.length < N → body.wpIn (F.inRound l) (n - 1 - 1) P (ownPostG w.heap.size Kp I Ix (pre ++ [x]) W) (a₁ x) W)
    (hdone : ∀ (D : Nat) (xs : List α) (W : World), w.heap.size ≤ D → S xs → I xs W → W.heap[D]? = some (.deferred (some [])) → Q .normal { a with defers := { target := .collected D, args := #[] } :: a.defers } W)
    (hstop : ∀ (D : Nat) (c : Code) (pre : List α) (W : World), w.heap.size ≤ D → Sp pre → Ix c pre W → W.heap[D]? = some (.deferred (some [])) → c.wpIn F n P Q { a with defers := { target := .collected D, args := #[] } :: a.defers } W) :
    (Code.rangeFunc g ps assign body).wpIn F n P Q a w := by
  refine wpIn_rangeFunc fun fn hfn => ?_
  rw [hro]
  -- the two blocks that the statement lays: the rounds' deferred calls (D), the loop's record (D + 1)
  generalize hD : w.heap.size = D at *
  let rec_ : LoopState → Option Code → Loop := fun st pe => { state := st, pending := pe, fn, tmps := a.tmps, params := ps, assign, body, defers := D }
  obtain ⟨V, hV⟩ : ∃ V, V = (w.alloc (.deferred (some []))).alloc (.loop (rec_ .ready none)) := ⟨_, rfl⟩
  have hVs : V.heap.size = D + 1 + 1 := by rw [hV]; simp [hD]
  have hVr : V.heap[D + 1]? = some (.loop (rec_ .ready none)) := by
    have := World.alloc_heap_new (w.alloc (.deferred (some []))) (.loop (rec_ .ready none))
    rw [World.size_alloc, hD] at this
    rw [hV]; exact this
  have hVd : V.heap[D]? = some (.deferred (some [])) := by
    have := World.alloc_heap_new w (.deferred (some []))
    rw [hD] at this
    rw [hV]; exact (Below.heap_alloc _ _ _ (by simp [hD])).trans this
  have hVI : I [] V := by rw [hV]; exact hI.alloc _ (hI.alloc _ h0)
  have hVb : Below w0.heap.size w0 V := by
    rw [hV]; exact hb0.trans ((((Below.refl D w).alloc (by rw [hD]; exact Nat.le_refl _) _).alloc (by simp [hD]) _).mono (by rw [← hD]; exact hb0.size))
  refine ⟨D + 1, [{ target := .collected D, args := #[] }], V, { target := .fn (.func gf) lb, args := #[.func (.yield (D + 1)) #[] #[]] }, V, gf, #[.func (.yield (D + 1)) #[] #[]] ++ lb, V, ?_, ?_, ?_, ?_, fun _ => h1, ?_⟩
  · have := run_enterLoop_outer (P := P) (w := w) fn a.tmps ps assign body
    rw [hD] at this
    rw [hV]; exact this
  · simp only [resolve, hg]
    simp [go_sem]
  · intro f' hf'
    simp [Target.leads] at hf'
    subst hf'; exact hFg
  · simp [invoke, go_sem, eg]
  have turn : ∀ {A B : World} {row : Option Nat}, (∀ r, row = some r → V.heap.size ≤ r ∧ ∃ o : Obj, A.heap[r]? = some o ∧ o.isWalk = true) → (∀ r, row = some r → D ≤ r ∧ ∃ o : Obj, A.heap[r]? = some o ∧ o.isCells = false) :=
    fun h r e => by obtain ⟨q1, o, q2, q3⟩ := h r e; exact ⟨by omega, o, q2, Obj.not_cells_of_walk q3⟩
  have stays : ∀ {A B : World} {row : Option Nat} {k : Nat} {o : Obj}, A.grownBy B row → (∀ r, row = some r → V.heap.size ≤ r ∧ ∃ o : Obj, A.heap[r]? = some o ∧ o.isWalk = true) → A.heap[k]? = some o → o.isWalk = false → B.heap[k]? = some o :=
    fun h h' hk ho => (grownBy_keeps h (fun r e => (h' r e).2) hk ho).trans hk
  have h2 : ∀ {A B : World}, World.grownBy A B none → (∀ r, (none : Option Nat) = some r → D ≤ r ∧ ∃ o : Obj, A.heap[r]? = some o ∧ o.isCells = false) := fun _ r e => by cases e
  refine (hseq (D + 1) (fun pre W => I pre W ∧ W.heap[D + 1]? = some (.loop (rec_ .ready none)) ∧ W.heap[D]? = some (.deferred (some [])))
    (fun pre W => ∃ c, Ix c pre W ∧ W.heap[D + 1]? = some (.loop (rec_ .done (some c))) ∧ W.heap[D]? = some (.deferred (some [])))
    V hVb (fun s A B row hs hgr hr => ⟨hI s A B row hs.1 hgr (turn (B := B) hr), stays hgr hr hs.2.1 rfl, stays hgr hr hs.2.2 rfl⟩)
    (fun s A B row hs hgr hr => by obtain ⟨c, q1, q2, q3⟩ := hs; exact ⟨c, hIx c s A B row q1 hgr (turn (B := B) hr), stays hgr hr q2 rfl, stays hgr hr q3 rfl⟩)
    ?round ⟨hVI, hVr, hVd⟩).mono ?behind
  case behind =>
    rintro e U ⟨⟨v, rfl⟩, (⟨xs, hS, hi, hr, hd⟩ | ⟨pre, hSp, c, hi, hr, hd⟩)⟩
    · exact ⟨none, _, run_endLoop (P := P) hr (by simp [rec_]), hdone D xs _ (Nat.le_refl _) hS (hI.putObj _ hi (by omega) hr rfl) ((World.putObj_heap_other (by omega)).trans hd)⟩
    · exact ⟨some c, _, run_endLoop (P := P) hr (by simp [rec_]), hstop D c pre _ (Nat.le_refl _) hSp ((hIx c).putObj _ hi (by omega) hr rfl) ((World.putObj_heap_other (by omega)).trans hd)⟩
  case round =>
    rintro pre x W0 W ⟨hi, hr0, hd0⟩ hlen hbw ht
    have hlt0 : D + 1 < W0.heap.size := (Array.getElem?_eq_some_iff.1 hr0).1
    have hlt : D + 1 < W.heap.size := Nat.lt_of_lt_of_le hlt0 hbw.size
    have hr := (hbw.block _ hlt0).trans hr0
    have hd := (hbw.block _ (Nat.lt_of_succ_lt hlt0)).trans hd0
    refine ⟨fn, _, assign, body, run_yield (P := P) (args := encs x) hr (hps x), roundIn_of_wpIn hfn (hassign _ x W _ ⟨_, run_beginRound hr rfl, ?_⟩)⟩
    -- the round's own world: the record is busy
    obtain ⟨X, hX⟩ : ∃ X, X = W.putObj (D + 1) (.loop { rec_ .ready none with state := .busy }) := ⟨_, rfl⟩
    have hXr : X.heap[D + 1]? = some (.loop { rec_ .ready none with state := .busy }) := by rw [hX]; exact World.putObj_heap_same hlt
    have hXd : X.heap[D]? = some (.deferred (some [])) := by rw [hX]; exact (World.putObj_heap_other (by omega)).trans hd
    have hXk : Kp W X := by rw [hX]; exact hKb _ _ _ _ (by omega) hr rfl rfl
    have hXi : I pre (W0.putObj (D + 1) (.loop { rec_ .ready none with state := .busy })) := hI.putObj _ hi (by omega) hr0 rfl
    have hXt : T pre x W0.heap.size X := by rw [hX]; exact (hT pre x _).putObj (s := ()) _ ht (by omega) hr rfl
    have hs0 : (W0.putObj (D + 1) (.loop { rec_ .ready none with state := .busy })).heap.size = W0.heap.size := by simp
    have hXb : Below W0.heap.size (W0.putObj (D + 1) (.loop { rec_ .ready none with state := .busy })) X := by
      rw [hX]
      refine ⟨hbw.os, hbw.tape, hbw.output, by simpa using hbw.size, fun k hk => ?_⟩
      by_cases e : k = D + 1
      · subst e; rw [World.putObj_heap_same hlt, World.putObj_heap_same hlt0]
      · rw [World.putObj_heap_other e, World.putObj_heap_other e]; exact hbw.block k hk
    change body.wpIn _ _ P _ _ (W.putObj (D + 1) (.loop { rec_ .ready none with state := .busy }))
    rw [← hX]
    refine wpIn_mono (hbody (D + 1) pre x _ X hXi (hs0 ▸ hXb) (hs0.symm ▸ hXt) hlen) ?_
    have fin : ∀ (j : Option Code) (U : World), KeepsFrom D X U → U.heap[D + 1]? = some (.loop { rec_ .ready none with state := .busy }) ∧
        (Instr.endRound (D + 1) j).run P U = .ok (.bool j.isNone) (U.putObj (D + 1) (.loop (rec_ (if j.isNone then .ready else .done) j))) ∧
        (U.putObj (D + 1) (.loop (rec_ (if j.isNone then .ready else .done) j))).heap[D + 1]? = some (.loop (rec_ (if j.isNone then .ready else .done) j)) ∧
        (U.putObj (D + 1) (.loop (rec_ (if j.isNone then .ready else .done) j))).heap[D]? = some (.deferred (some [])) := fun j U hU => by
      have hUr := hU.same _ _ (Nat.le_succ D) hXr rfl
      exact ⟨hUr, run_endRound (P := P) j hUr, World.putObj_heap_same (Array.getElem?_eq_some_iff.1 hUr).1, (World.putObj_heap_other (by omega)).trans (hU.same _ _ (Nat.le_refl _) hXd rfl)⟩
    intro e b U hp
    cases e with
    | normal =>
      obtain ⟨q1, q2, q3⟩ := hp
      obtain ⟨f1, f2, f3, f4⟩ := fin none U q1
      exact ⟨_, _, f2, .inl ⟨rfl, ⟨hI.putObj _ q3 (by omega) f1 rfl, f3, f4⟩, hKt (hKt hXk q2) (hKb _ _ _ _ (by omega) f1 rfl rfl)⟩⟩
    | ret =>
      obtain ⟨q1, q3⟩ := hp
      obtain ⟨f1, f2, f3, f4⟩ := fin (some .ret) U q1
      exact ⟨_, _, f2, .inr ⟨rfl, .ret, (hIx _).putObj _ q3 (by omega) f1 rfl, f3, f4⟩⟩
    | exit id =>
      obtain ⟨q1, q3⟩ := hp
      obtain ⟨f1, f2, f3, f4⟩ := fin (some (.exit id)) U q1
      exact ⟨_, _, f2, .inr ⟨rfl, .exit id, (hIx _).putObj _ q3 (by omega) f1 rfl, f3, f4⟩⟩
    | goto t =>
      obtain ⟨q1, q3⟩ := hp
      obtain ⟨f1, f2, f3, f4⟩ := fin (some (.goto t)) U q1
      exact ⟨_, _, f2, .inr ⟨rfl, .goto t, (hIx _).putObj _ q3 (by omega) f1 rfl, f3, f4⟩⟩
    | panic ch => exact hp.elim
    | outgrown => exact hp.elim

end Go.Proofs.YtockdfnnhkhlkaaGreat.G

/- What ranges over functions need. -/
namespace Go.Proofs.YtockdfnnhkhlkaaGreat.G
open Go.RowKit Go.Shelf Go.Proofs.YtockdfnnhkhlkaaGreatW Go.Proofs.YtockdfnnhkhlkaaGreatW.PrintWords
set_option linter.unusedVariables false
set_option linter.unusedSimpArgs false
attribute [local go_sem] Oper.semAt_some

theorem below_grown {W W' : World} (h : Below W.heap.size W W') : W.grownBy W' none := ⟨h.os, h.tape, h.output, h.size, fun k hk _ => h.block k hk⟩
theorem abides_below {β : Type} {B : Nat} {J : β → World → Prop} (hJ : AbidesFrom B J) {s : β} {W W' : World} (h : J s W) (hb : Below W.heap.size W W') : J s W' := hJ s W W' none h (below_grown hb) (fun r e => by cases e)

end Go.Proofs.YtockdfnnhkhlkaaGreat.G

/- The ways over a grid of nothing: they hand over nothing. -/
namespace Go.Proofs.YtockdfnnhkhlkaaGreat.G
open Go.RowKit Go.Shelf Go.Proofs.YtockdfnnhkhlkaaGreatW Go.Proofs.YtockdfnnhkhlkaaGreatW.PrintWords Go.Proofs.YtockdfnnhkhlkaaGreatW.PrintMore
set_option linter.unusedVariables false
set_option linter.unusedSimpArgs false
attribute [local go_sem] Oper.semAt_some

theorem cell_alloc {w : World} {p : Addr} {v : Value} (h : w.cell? p = some v) (o : Obj) : (w.alloc o).cell? p = some v :=
  (World.cell?_of_block ((below_alloc (Below.refl w.heap.size w) o).block _ (World.block_lt_of_cell? w _ h))).trans h
/-- An iterator that hands over nothing, whatever is done with it. -/
def NoneSeq (n : Nat) (g : Nat) (lb : Array Value) (w : World) : Prop :=
  ∀ (l : Nat) (W : World), Below w.heap.size w W → CallsIn Fence.wide n Tryz.prog g (#[.func (.yield l) #[] #[]] ++ lb) W fun e W' => (∃ v, e = .returned v) ∧ Below W.heap.size W W'
def noVals (k : Nat) : Empty → Array Value := fun x => x.elim
theorem NoneSeq.seq {n g : Nat} {lb : Array Value} {w : World} (h : NoneSeq n g lb w) : SeqT Fence.wide n Tryz.prog g lb (noVals 0) (fun _ _ => True) (fun _ _ _ _ => False) (fun _ => True) (fun _ => False) 0 w := by
  intro l J Jx W hW hJ _ _ h0
  refine (h _ W hW).mono ?_
  rintro e W' ⟨hv, hb⟩
  exact ⟨hv, .inl ⟨[], trivial, abides_below hJ h0 hb⟩⟩
/-- A range over it: what comes behind, in a world that has only grown. -/
theorem wpIn_range_none {n : Nat} {w : World} {g : Operand} {ps : Array Tmp} {assign body : Code} {Q : Exit → Act → World → Prop} {a : Act} (h1 : 1 ≤ n) {gf : Nat} {lb : Array Value}
    (hg : a.eval g = .func (.func gf) #[] lb) (eg : ∀ args w, (callFunc gf args).run Tryz.prog w = .ok (.enter gf args) w) (hseq : NoneSeq (n - 1) gf lb w)
    (hdone : ∀ (D : Nat) (W : World), w.heap.size ≤ D → Below w.heap.size w W → W.heap[D]? = some (.deferred (some [])) → Q .normal { a with defers := { target := .collected D, args := #[] } :: a.defers } W) :
    (Code.rangeFunc g ps assign body).wpIn Fence.wide n Tryz.prog Q a w :=
  wpIn_rangeFunc_T rfl h1 (gf := gf) (lb := lb) hg trivial eg hseq.seq (fun _ x => x.elim) (fun _ _ => trivial) (fun _ _ _ _ _ _ _ _ => trivial) (Below.refl _ _) (fun x => x.elim)
    (fun _ W => Below w.heap.size w W) (fun _ _ _ => False) (ownFrom_below (Nat.le_refl _) (Nat.le_refl _)) (fun _ _ _ _ _ hs _ _ => hs) (Below.refl _ _) (fun x => x.elim)
    (fun _ x => x.elim) (fun _ _ x => x.elim) (fun D xs W hD _ hI hK => hdone D W hD hI hK) (fun _ _ _ _ _ h _ _ => h.elim)

set_option maxHeartbeats 1000000 in
theorem cells1_in (n : Nat) (l : Nat) (Bx g : Nat) (W : World) (h1 : W.cell? ⟨Bx, 0, none⟩ = some (.pointer (some ⟨g, 0, none⟩))) (h2 : W.cell? ⟨g, 0, none⟩ = some (.slice none 0 0)) :
    CallsIn Fence.wide n Tryz.prog 118 #[.func (.yield l) #[] #[], .pointer (some ⟨Bx, 0, none⟩)] W fun e W' => (∃ v, e = .returned v) ∧ W' = W := by
  refine callsIn_of_wp Tryz.func118 rfl trivial ?_ rfl
  simp only [Tryz.ntmps118, List.size_toArray, List.length_cons, List.length_nil, Nat.reduceAdd, Nat.reduceSub, Array.replicate_succ, Array.replicate_zero, List.push_toArray, List.append_toArray, List.nil_append, List.cons_append]
  gi_wp2
  gi_loopw [12] (fun i wr => i = .int .i64 0 ∧ wr = W) (fun _ _ => 0)
  case atStart => exact ⟨rfl, rfl⟩
  case round =>
    obtain ⟨rfl, rfl⟩ := hrel
    gi_wp2
    refine bodyPost_end (v := .tuple #[]) (results_none rfl _ _ _) rfl ?_
    exact ⟨⟨_, rfl⟩, rfl⟩
theorem cells1_none (n : Nat) (Bx g : Nat) (w : World) (h1 : w.cell? ⟨Bx, 0, none⟩ = some (.pointer (some ⟨g, 0, none⟩))) (h2 : w.cell? ⟨g, 0, none⟩ = some (.slice none 0 0)) :
    NoneSeq n 118 #[.pointer (some ⟨Bx, 0, none⟩)] w := by
  intro l W hW
  refine (cells1_in n l Bx g W ((World.cell?_of_block (hW.block _ (World.block_lt_of_cell? w _ h1))).trans h1) ((World.cell?_of_block (hW.block _ (World.block_lt_of_cell? w _ h2))).trans h2)).mono ?_
  rintro e W' ⟨hv, rfl⟩
  exact ⟨hv, Below.refl _ _⟩

set_option maxHeartbeats 1000000 in
theorem cells_in (n : Nat) (v : Option Addr) (w : World) :
    CallsIn Fence.wide n Tryz.prog 109 #[.pointer v] w fun e w' => e = .returned (.func (.func 118) #[] #[.pointer (some ⟨w.heap.size, 0, none⟩)]) ∧ w' = w.alloc (.cells #[.pointer v] 88) := by
  refine callsIn_of_wp Tryz.func109 rfl trivial ?_ rfl
  simp only [Tryz.ntmps109, List.size_toArray, List.length_cons, List.length_nil, Nat.reduceAdd, Nat.reduceSub, Array.replicate_succ, Array.replicate_zero, List.push_toArray, List.append_toArray, List.nil_append, List.cons_append]
  gi_wp2
  go_ret
  exact ⟨rfl, rfl⟩

set_option maxHeartbeats 1000000 in
theorem along1_none (n : Nat) (hn : 4 ≤ n) (B1 B2 B3 g : Nat) (w : World) (h1 : w.cell? ⟨B1, 0, none⟩ = some (.pointer (some ⟨g, 0, none⟩))) (h2 : w.cell? ⟨g, 0, none⟩ = some (.slice none 0 0)) :
    NoneSeq n 108 #[.pointer (some ⟨B1, 0, none⟩), .pointer (some ⟨B2, 0, none⟩), .pointer (some ⟨B3, 0, none⟩)] w := by
  intro l W hW
  have hn1 : 1 ≤ n := by omega
  have h1' := (World.cell?_of_block (hW.block _ (World.block_lt_of_cell? w _ h1))).trans h1
  have h2' := (World.cell?_of_block (hW.block _ (World.block_lt_of_cell? w _ h2))).trans h2
  refine callsIn_of_wp_marks Tryz.func108 rfl trivial ?_ rfl
  simp only [Tryz.ntmps108, List.size_toArray, List.length_cons, List.length_nil, Nat.reduceAdd, Nat.reduceSub, Array.replicate_succ, Array.replicate_zero, List.push_toArray, List.append_toArray, List.nil_append, List.cons_append]
  have h1x := cell_alloc h1' (.cells #[.func (.yield l) #[] #[]] 231)
  have h2x := cell_alloc h2' (.cells #[.func (.yield l) #[] #[]] 231)
  gi_wp2_with (refine ⟨trivial, ?_⟩; gi_at_call 109; refine (cells_in _ _ _).mono ?_; rintro e w' ⟨rfl, rfl⟩)
  refine wpIn_range_none (n := n) (by omega) (gf := 118) (lb := #[.pointer (some ⟨W.heap.size + 1, 0, none⟩)]) rfl (enters_of Tryz.func118 (by kernel_rfl) rfl) (cells1_none _ _ g _ ?_ ?_) ?_
  · exact blk_cell (by have := blk_new (W.alloc (.cells #[.func (.yield l) #[] #[]] 231)) (.cells #[.pointer (some ⟨g, 0, none⟩)] 88); rwa [World.size_alloc] at this) 0
  · exact cell_alloc h2x _
  · intro D W2 hD hB hK
    refine ⟨by simp, .inl ⟨_, _, rfl, run_takeDeferred hK, ?_⟩⟩
    refine ⟨_, results_none rfl _ _ _, ⟨_, rfl⟩, ?_⟩
    have h0 := below_alloc (below_alloc (Below.refl W.heap.size W) (.cells #[.func (.yield l) #[] #[]] 231)) (.cells #[.pointer (some ⟨g, 0, none⟩)] 88)
    exact (h0.trans (hB.mono h0.size)).trans (belowK_b (w := W) (Nat.le_refl _) W2 D _ _ (Nat.le_trans h0.size hD) hK rfl rfl)

set_option maxHeartbeats 1000000 in
theorem along_in (n : Nat) (g : Option Addr) (s a : Int) (w : World) :
    CallsIn Fence.wide n Tryz.prog 88 #[.pointer g, .int .i64 s, .int .i64 a] w fun e w' => e = .returned (.func (.func 108) #[] #[.pointer (some ⟨w.heap.size, 0, none⟩), .pointer (some ⟨w.heap.size + 1, 0, none⟩), .pointer (some ⟨w.heap.size + 1 + 1, 0, none⟩)]) ∧
      w' = ((w.alloc (.cells #[.pointer g] 88)).alloc (.cells #[.int .i64 s] 3)).alloc (.cells #[.int .i64 a] 3) := by
  refine callsIn_of_wp Tryz.func88 rfl trivial ?_ rfl
  simp only [Tryz.ntmps88, List.size_toArray, List.length_cons, List.length_nil, Nat.reduceAdd, Nat.reduceSub, Array.replicate_succ, Array.replicate_zero, List.push_toArray, List.append_toArray, List.nil_append, List.cons_append]
  gi_wp2
  go_ret
  exact ⟨rfl, rfl⟩
set_option maxHeartbeats 1000000 in
theorem row_in (n : Nat) (hn : 1 ≤ n) (g : Option Addr) (a : Int) (w : World) :
    CallsIn Fence.wide n Tryz.prog 67 #[.pointer g, .int .i64 a] w fun e w' => e = .returned (.func (.func 108) #[] #[.pointer (some ⟨w.heap.size, 0, none⟩), .pointer (some ⟨w.heap.size + 1, 0, none⟩), .pointer (some ⟨w.heap.size + 1 + 1, 0, none⟩)]) ∧
      w' = ((w.alloc (.cells #[.pointer g] 88)).alloc (.cells #[.int .i64 0] 3)).alloc (.cells #[.int .i64 a] 3) := by
  refine callsIn_of_wp Tryz.func67 rfl trivial ?_ rfl
  simp only [Tryz.ntmps67, List.size_toArray, List.length_cons, List.length_nil, Nat.reduceAdd, Nat.reduceSub, Array.replicate_succ, Array.replicate_zero, List.push_toArray, List.append_toArray, List.nil_append, List.cons_append]
  gi_wp2_with (refine ⟨trivial, ?_⟩; gi_at_call 88; refine (along_in _ _ _ _ _).mono ?_; rintro e w' ⟨rfl, rfl⟩)
  go_ret
  exact ⟨rfl, rfl⟩

set_option maxHeartbeats 1000000 in
theorem all_in (n : Nat) (hn : 2 ≤ n) (r g : Nat) (w : World) (hg : w.cell? ⟨r, 1, none⟩ = some (.pointer (some ⟨g, 0, none⟩))) (hl : w.cell? ⟨g, 0, none⟩ = some (.slice none 0 0)) :
    CallsIn Fence.wide n Tryz.prog 51 #[.pointer (some ⟨r, 0, none⟩)] w fun e w' => ∃ lb, e = .returned (.func (.func 108) #[] lb) ∧ (∀ m, 4 ≤ m → NoneSeq m 108 lb w') ∧ Below w.heap.size w w' := by
  have hn1 : 1 ≤ n := by omega
  refine callsIn_of_wp Tryz.func51 rfl trivial ?_ rfl
  simp only [Tryz.ntmps51, List.size_toArray, List.length_cons, List.length_nil, Nat.reduceAdd, Nat.reduceSub, Array.replicate_succ, Array.replicate_zero, List.push_toArray, List.append_toArray, List.nil_append, List.cons_append]
  gi_wp2_with (refine ⟨trivial, ?_⟩; gi_at_call 67; refine (row_in _ (by omega) _ _ _).mono ?_; rintro e w' ⟨rfl, rfl⟩)
  go_ret
  refine ⟨_, rfl, fun m hm => along1_none m hm _ _ _ g _ ?_ (cell_alloc (cell_alloc (cell_alloc hl _) _) _), below_alloc (below_alloc (below_alloc (Below.refl _ _) _) _) _⟩
  exact cell_alloc (cell_alloc (blk_cell (blk_new w _) 0) _) _
end Go.Proofs.YtockdfnnhkhlkaaGreat.G
