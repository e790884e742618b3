/- New of grid, voting, pre, agenda: what they lay. -/
import Derived.Test.YtockdfnnhkhlkaaGreatDoorNoHLies
import Derived.Test.YtockdfnnhkhlkaaGreatDoorNoGx0
import Derived.RangeFuncNested
import Derived.RangeFuncBound
import Derived.RangeFuncCalls
import Derived.RangeFuncLeaves
import Derived.RangeFuncBox
import Derived.Shelf.Abstract
import Derived.Shelf.RegionOpen
import Derived.OwnWalkIn
import Derived.TacticsInMore
import Derived.LoopNIn
import Derived.LoopIn
import Derived.IntWalk
import Derived.Lib.Hide
import Derived.WideMake
namespace Go.Proofs.YtockdfnnhkhlkaaGreatDoor.G
open Go.RowKit Go.Shelf Go.Proofs.YtockdfnnhkhlkaaGreatDoorW.PrintWords Go.Proofs.YtockdfnnhkhlkaaGreatDoorW.PrintMore
set_option linter.unusedVariables false
set_option linter.unusedSimpArgs false

set_option maxHeartbeats 1000000 in
theorem gridNew1_calls (w : World) : Calls Tryz.prog 92 #[] w fun e w' => e = .returned (.pointer (some ⟨w.heap.size, 0, none⟩)) ∧ w' = w.alloc (.cells #[.slice none 0 0] 243) := by
  go_enter Tryz.func92, Tryz.ntmps92
  go_wp2
  go_ret
  exact ⟨rfl, rfl⟩

section
variable {P : Program} {ops : Array Oper} {rest : List Oper} {o : Oper} {a : Act} {Q : Exit → Act → World → Prop}
theorem make_map {W : World} (hgd : o.guard = none) (t : TypeId) (ho : o.op = .makeMap t none)
    (h : wpList P ops Q rest (a.put o.dst (.map (some W.heap.size))) (W.alloc (.map #[] 0))) : wpList P ops Q (o :: rest) a W :=
  Kd.event_run (v := .map (some W.heap.size)) (w1 := W.alloc (.map #[] 0)) hgd (by simp [execOp, ho, run_makeMap_plain]) h
end
set_option maxHeartbeats 1000000 in
theorem preNew_calls (w : World) : Calls Tryz.prog 49 #[] w fun e w' => e = .returned (.pointer (some ⟨w.heap.size + 1 + 1, 0, none⟩)) ∧ Below w.heap.size w w' := by
  go_enter Tryz.func49, Tryz.ntmps49
  go_wp2_with (with_reducible refine make_map rfl _ rfl ?_)
  go_ret
  exact ⟨rfl, below_alloc (below_alloc (below_alloc (Below.refl _ _) _) _) _⟩
set_option maxHeartbeats 1000000 in
theorem gridNew2_calls (w : World) : Calls Tryz.prog 98 #[] w fun e w' => e = .returned (.pointer (some ⟨w.heap.size, 0, none⟩)) ∧ w' = w.alloc (.cells #[.slice none 0 0] 199) := by
  go_enter Tryz.func98, Tryz.ntmps98
  go_wp2
  go_ret
  exact ⟨rfl, rfl⟩
set_option maxHeartbeats 1000000 in
theorem agendaNew_calls (w : World) : Calls Tryz.prog 50 #[] w fun e w' => e = .returned (.pointer (some ⟨w.heap.size, 0, none⟩)) ∧ w' = w.alloc (.cells #[.slice none 0 0] 143) := by
  go_enter Tryz.func50, Tryz.ntmps50
  go_wp2
  go_ret
  exact ⟨rfl, rfl⟩
set_option maxHeartbeats 1000000 in
theorem gridNew3_calls (w : World) : Calls Tryz.prog 99 #[] w fun e w' => e = .returned (.pointer (some ⟨w.heap.size, 0, none⟩)) ∧ Below w.heap.size w w' ∧ w'.heap.size = w.heap.size + 1 := by
  go_enter Tryz.func99, Tryz.ntmps99
  go_wp2
  go_ret
  exact ⟨rfl, below_alloc (Below.refl _ _) _, by simp⟩
set_option maxHeartbeats 1000000 in
theorem gridNew4_calls (w : World) : Calls Tryz.prog 100 #[] w fun e w' => e = .returned (.pointer (some ⟨w.heap.size, 0, none⟩)) ∧ Below w.heap.size w w' ∧ w'.heap.size = w.heap.size + 1 := by
  go_enter Tryz.func100, Tryz.ntmps100
  go_wp2
  go_ret
  exact ⟨rfl, below_alloc (Below.refl _ _) _, by simp⟩
set_option maxHeartbeats 2000000 in
theorem votingNew_calls (w : World) : Calls Tryz.prog 48 #[] w fun e w' => ∃ V, e = .returned (.pointer (some ⟨V, 0, none⟩)) ∧ Below w.heap.size w w' := by
  go_enter Tryz.func48, Tryz.ntmps48
  go_wp2_with (first
    | (go_at_call 99; go_loud ((with_reducible refine (gridNew3_calls _).mono ?_); rintro e w1 ⟨rfl, hb1, hs1⟩; have HB1 := Aside0.mk hb1; have HS1 := Aside0.mk hs1; clear hb1 hs1))
    | (go_at_call 100; go_loud ((with_reducible refine (gridNew4_calls _).mono ?_); rintro e w2 ⟨rfl, hb2, hs2⟩; have HB2 := Aside0.mk (HB1.out.trans (hb2.mono HB1.out.size)); clear hb2)))
  go_ret
  exact ⟨_, rfl, below_alloc HB2.out _⟩
end Go.Proofs.YtockdfnnhkhlkaaGreatDoor.G

/- A range over a function whose yielded value leads to memory: what holds of the value where it is handed over (T) is a premise of the round. -/
namespace Go.Proofs.YtockdfnnhkhlkaaGreatDoor.G
open Go.RowKit Go.Shelf
set_option linter.unusedVariables false

/-- An iterator's contract: it hands over values of which T holds at that place; it ends by itself (S), or where a round has said so (Sp). -/
def SeqT {α : Type} (F : Fence) (n : Nat) (P : Program) (g : Nat) (lb : Array Value) (encs : α → Array Value) (Kp : World → World → Prop) (T : List α → α → Nat → World → Prop) (S Sp : List α → Prop) (N : Nat) (w : World) : Prop :=
  ∀ (l : Nat) (J Jx : List α → World → Prop) (W : World), Below w.heap.size w W → AbidesFrom W.heap.size J → AbidesFrom W.heap.size Jx →
    (∀ pre x W0 W1, J pre W0 → pre.length < N → Below W0.heap.size W0 W1 → T pre x W0.heap.size W1 → YieldAt F (n - 1) P l (encs x) W1 fun e W' =>
      (e = .returned (.bool true) ∧ J (pre ++ [x]) W' ∧ Kp W1 W') ∨ (e = .returned (.bool false) ∧ Jx (pre ++ [x]) W')) →
    J [] W →
    CallsIn F n P g (#[.func (.yield l) #[] #[]] ++ lb) W fun e W' => (∃ v, e = .returned v) ∧ ((∃ xs, S xs ∧ J xs W') ∨ (∃ pre, Sp pre ∧ Jx pre W'))

set_option maxHeartbeats 1000000 in
/-- The statement itself, where the assignment turns no memory. -/
theorem wpIn_rangeFunc_T {α : Type} {F : Fence} {n : Nat} {P : Program} {w : World} {g : Operand} {ps : Array Tmp} {assign body : Code} {Q : Exit → Act → World → Prop} {a : Act}
    (hro : F.round = none) (h1 : 1 ≤ n) {gf : Nat} {lb : Array Value} (hg : a.eval g = .func (.func gf) #[] lb) (hFg : F.fn gf) (eg : ∀ args w, (callFunc gf args).run P w = .ok (.enter gf args) w)
    {encs : α → Array Value} {Kp : World → World → Prop} {T : List α → α → Nat → World → Prop} {S Sp : List α → Prop} {N : Nat} {w0 : World} (hseq : SeqT F (n - 1) P gf lb encs Kp T S Sp N w0)
    (hT : ∀ pre x m, OwnFrom w.heap.size (fun (_ : Unit) W => T pre x m W))
    (hKt : ∀ {A B C : World}, Kp A B → Kp B C → Kp A C) (hKb : ∀ (W : World) (l : Nat) (o o' : Obj), w.heap.size ≤ l → W.heap[l]? = some o → o.isCells = false → o.isWalk = false → Kp W (W.putObj l o')) (hb0 : Below w0.heap.size w0 w) (hps : ∀ x, (encs x).size = ps.size)
    (I : List α → World → Prop) (Ix : Code → List α → World → Prop) (hI : OwnFrom w.heap.size I) (hIx : ∀ c, OwnFrom w.heap.size (Ix c)) (h0 : I [] w) (a₁ : α → Act)
    (hassign : ∀ (l : Nat) (x : α) (W : World) (K : Act → World → Prop), K (a₁ x) W →
      assign.wpIn (F.inRound l) (n - 1 - 1) P (Exit.then K (fun _ _ _ => False)) { tmps := (ps.zip (encs x)).foldl (fun t (p, v) => t.setIfInBounds p v) a.tmps, defers := [] } W)
    (hbody : ∀ (l : Nat) (pre : List α) (x : α) (W0 W : World), I pre W0 → Below W0.heap.size W0 W → T pre x W0.heap.size W → pre.length < N → body.wpIn (F.inRound l) (n - 1 - 1) P (ownPostG w.heap.size Kp I Ix (pre ++ [x]) W) (a₁ x) W)
    (hdone : ∀ (D : Nat) (xs : List α) (W : World), w.heap.size ≤ D → S xs → I xs W → W.heap[D]? = some (.deferred (some [])) → Q .normal { a with defers := { target := .collected D, args := #[] } :: a.defers } W)
    (hstop : ∀ (D : Nat) (c : Code) (pre : List α) (W : World), w.heap.size ≤ D → Sp pre → Ix c pre W → W.heap[D]? = some (.deferred (some [])) → c.wpIn F n P Q { a with defers := { target := .collected D, args := #[] } :: a.defers } W) :
    (Code.rangeFunc g ps assign body).wpIn F n P Q a w := by
  refine wpIn_rangeFunc fun fn hfn => ?_
  rw [hro]
  -- the two blocks that the statement lays: the rounds' deferred calls (D), the loop's record (D + 1)
  generalize hD : w.heap.size = D at *
  let rec_ : LoopState → Option Code → Loop := fun st pe => { state := st, pending := pe, fn, tmps := a.tmps, params := ps, assign, body, defers := D }
  obtain ⟨V, hV⟩ : ∃ V, V = (w.alloc (.deferred (some []))).alloc (.loop (rec_ .ready none)) := ⟨_, rfl⟩
  have hVs : V.heap.size = D + 1 + 1 := by rw [hV]; simp [hD]
  have hVr : V.heap[D + 1]? = some (.loop (rec_ .ready none)) := by
    have := World.alloc_heap_new (w.alloc (.deferred (some []))) (.loop (rec_ .ready none))
    rw [World.size_alloc, hD] at this
    rw [hV]; exact this
  have hVd : V.heap[D]? = some (.deferred (some [])) := by
    have := World.alloc_heap_new w (.deferred (some []))
    rw [hD] at this
    rw [hV]; exact (Below.heap_alloc _ _ _ (by simp [hD])).trans this
  have hVI : I [] V := by rw [hV]; exact hI.alloc _ (hI.alloc _ h0)
  have hVb : Below w0.heap.size w0 V := by
    rw [hV]; exact hb0.trans ((((Below.refl D w).alloc (by rw [hD]; exact Nat.le_refl _) _).alloc (by simp [hD]) _).mono (by rw [← hD]; exact hb0.size))
  refine ⟨D + 1, [{ target := .collected D, args := #[] }], V, { target := .fn (.func gf) lb, args := #[.func (.yield (D + 1)) #[] #[]] }, V, gf, #[.func (.yield (D + 1)) #[] #[]] ++ lb, V, ?_, ?_, ?_, ?_, fun _ => h1, ?_⟩
  · have := run_enterLoop_outer (P := P) (w := w) fn a.tmps ps assign body
    rw [hD] at this
    rw [hV]; exact this
  · simp only [resolve, hg]
    simp [go_sem]
  · intro f' hf'
    simp [Target.leads] at hf'
    subst hf'; exact hFg
  · simp [invoke, go_sem, eg]
  have turn : ∀ {A B : World} {row : Option Nat}, (∀ r, row = some r → V.heap.size ≤ r ∧ ∃ o : Obj, A.heap[r]? = some o ∧ o.isWalk = true) → (∀ r, row = some r → D ≤ r ∧ ∃ o : Obj, A.heap[r]? = some o ∧ o.isCells = false) :=
    fun h r e => by obtain ⟨q1, o, q2, q3⟩ := h r e; exact ⟨by omega, o, q2, Obj.not_cells_of_walk q3⟩
  have stays : ∀ {A B : World} {row : Option Nat} {k : Nat} {o : Obj}, A.grownBy B row → (∀ r, row = some r → V.heap.size ≤ r ∧ ∃ o : Obj, A.heap[r]? = some o ∧ o.isWalk = true) → A.heap[k]? = some o → o.isWalk = false → B.heap[k]? = some o :=
    fun h h' hk ho => (grownBy_keeps h (fun r e => (h' r e).2) hk ho).trans hk
  have h2 : ∀ {A B : World}, World.grownBy A B none → (∀ r, (none : Option Nat) = some r → D ≤ r ∧ ∃ o : Obj, A.heap[r]? = some o ∧ o.isCells = false) := fun _ r e => by cases e
  refine (hseq (D + 1) (fun pre W => I pre W ∧ W.heap[D + 1]? = some (.loop (rec_ .ready none)) ∧ W.heap[D]? = some (.deferred (some [])))
    (fun pre W => ∃ c, Ix c pre W ∧ W.heap[D + 1]? = some (.loop (rec_ .done (some c))) ∧ W.heap[D]? = some (.deferred (some [])))
    V hVb (fun s A B row hs hgr hr => ⟨hI s A B row hs.1 hgr (turn (B := B) hr), stays hgr hr hs.2.1 rfl, stays hgr hr hs.2.2 rfl⟩)
    (fun s A B row hs hgr hr => by obtain ⟨c, q1, q2, q3⟩ := hs; exact ⟨c, hIx c s A B row q1 hgr (turn (B := B) hr), stays hgr hr q2 rfl, stays hgr hr q3 rfl⟩)
    ?round ⟨hVI, hVr, hVd⟩).mono ?behind
  case behind =>
    rintro e U ⟨⟨v, rfl⟩, (⟨xs, hS, hi, hr, hd⟩ | ⟨pre, hSp, c, hi, hr, hd⟩)⟩
    · exact ⟨none, _, run_endLoop (P := P) hr (by simp [rec_]), hdone D xs _ (Nat.le_refl _) hS (hI.putObj _ hi (by omega) hr rfl) ((World.putObj_heap_other (by omega)).trans hd)⟩
    · exact ⟨some c, _, run_endLoop (P := P) hr (by simp [rec_]), hstop D c pre _ (Nat.le_refl _) hSp ((hIx c).putObj _ hi (by omega) hr rfl) ((World.putObj_heap_other (by omega)).trans hd)⟩
  case round =>
    rintro pre x W0 W ⟨hi, hr0, hd0⟩ hlen hbw ht
    have hlt0 : D + 1 < W0.heap.size := (Array.getElem?_eq_some_iff.1 hr0).1
    have hlt : D + 1 < W.heap.size := Nat.lt_of_lt_of_le hlt0 hbw.size
    have hr := (hbw.block _ hlt0).trans hr0
    have hd := (hbw.block _ (Nat.lt_of_succ_lt hlt0)).trans hd0
    refine ⟨fn, _, assign, body, run_yield (P := P) (args := encs x) hr (hps x), roundIn_of_wpIn hfn (hassign _ x W _ ⟨_, run_beginRound hr rfl, ?_⟩)⟩
    -- the round's own world: the record is busy
    obtain ⟨X, hX⟩ : ∃ X, X = W.putObj (D + 1) (.loop { rec_ .ready none with state := .busy }) := ⟨_, rfl⟩
    have hXr : X.heap[D + 1]? = some (.loop { rec_ .ready none with state := .busy }) := by rw [hX]; exact World.putObj_heap_same hlt
    have hXd : X.heap[D]? = some (.deferred (some [])) := by rw [hX]; exact (World.putObj_heap_other (by omega)).trans hd
    have hXk : Kp W X := by rw [hX]; exact hKb _ _ _ _ (by omega) hr rfl rfl
    have hXi : I pre (W0.putObj (D + 1) (.loop { rec_ .ready none with state := .busy })) := hI.putObj _ hi (by omega) hr0 rfl
    have hXt : T pre x W0.heap.size X := by rw [hX]; exact (hT pre x _).putObj (s := ()) _ ht (by omega) hr rfl
    have hs0 : (W0.putObj (D + 1) (.loop { rec_ .ready none with state := .busy })).heap.size = W0.heap.size := by simp
    have hXb : Below W0.heap.size (W0.putObj (D + 1) (.loop { rec_ .ready none with state := .busy })) X := by
      rw [hX]
      refine ⟨hbw.os, hbw.tape, hbw.output, by simpa using hbw.size, fun k hk => ?_⟩
      by_cases e : k = D + 1
      · subst e; rw [World.putObj_heap_same hlt, World.putObj_heap_same hlt0]
      · rw [World.putObj_heap_other e, World.putObj_heap_other e]; exact hbw.block k hk
    change body.wpIn _ _ P _ _ (W.putObj (D + 1) (.loop { rec_ .ready none with state := .busy }))
    rw [← hX]
    refine wpIn_mono (hbody (D + 1) pre x _ X hXi (hs0 ▸ hXb) (hs0.symm ▸ hXt) hlen) ?_
    have fin : ∀ (j : Option Code) (U : World), KeepsFrom D X U → U.heap[D + 1]? = some (.loop { rec_ .ready none with state := .busy }) ∧
        (Instr.endRound (D + 1) j).run P U = .ok (.bool j.isNone) (U.putObj (D + 1) (.loop (rec_ (if j.isNone then .ready else .done) j))) ∧
        (U.putObj (D + 1) (.loop (rec_ (if j.isNone then .ready else .done) j))).heap[D + 1]? = some (.loop (rec_ (if j.isNone then .ready else .done) j)) ∧
        (U.putObj (D + 1) (.loop (rec_ (if j.isNone then .ready else .done) j))).heap[D]? = some (.deferred (some [])) := fun j U hU => by
      have hUr := hU.same _ _ (Nat.le_succ D) hXr rfl
      exact ⟨hUr, run_endRound (P := P) j hUr, World.putObj_heap_same (Array.getElem?_eq_some_iff.1 hUr).1, (World.putObj_heap_other (by omega)).trans (hU.same _ _ (Nat.le_refl _) hXd rfl)⟩
    intro e b U hp
    cases e with
    | normal =>
      obtain ⟨q1, q2, q3⟩ := hp
      obtain ⟨f1, f2, f3, f4⟩ := fin none U q1
      exact ⟨_, _, f2, .inl ⟨rfl, ⟨hI.putObj _ q3 (by omega) f1 rfl, f3, f4⟩, hKt (hKt hXk q2) (hKb _ _ _ _ (by omega) f1 rfl rfl)⟩⟩
    | ret =>
      obtain ⟨q1, q3⟩ := hp
      obtain ⟨f1, f2, f3, f4⟩ := fin (some .ret) U q1
      exact ⟨_, _, f2, .inr ⟨rfl, .ret, (hIx _).putObj _ q3 (by omega) f1 rfl, f3, f4⟩⟩
    | exit id =>
      obtain ⟨q1, q3⟩ := hp
      obtain ⟨f1, f2, f3, f4⟩ := fin (some (.exit id)) U q1
      exact ⟨_, _, f2, .inr ⟨rfl, .exit id, (hIx _).putObj _ q3 (by omega) f1 rfl, f3, f4⟩⟩
    | goto t =>
      obtain ⟨q1, q3⟩ := hp
      obtain ⟨f1, f2, f3, f4⟩ := fin (some (.goto t)) U q1
      exact ⟨_, _, f2, .inr ⟨rfl, .goto t, (hIx _).putObj _ q3 (by omega) f1 rfl, f3, f4⟩⟩
    | panic ch => exact hp.elim
    | outgrown => exact hp.elim

end Go.Proofs.YtockdfnnhkhlkaaGreatDoor.G
