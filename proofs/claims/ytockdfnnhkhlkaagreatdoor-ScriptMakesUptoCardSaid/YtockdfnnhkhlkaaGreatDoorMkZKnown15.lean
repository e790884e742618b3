/- script.Run over rows of nothing: a block for each (laid by mkzrun.py). -/
import Derived.Test.YtockdfnnhkhlkaaGreatDoorMkHStep
import Derived.Test.YtockdfnnhkhlkaaGreatDoorMkGx2
import Derived.Test.YtockdfnnhkhlkaaGreatDoorMkZRows
import Derived.Test.YtockdfnnhkhlkaaGreatDoorMkZChain
import Derived.Deep.RegionHeld3
import Derived.Test.YtockdfnnhkhlkaaGreatDoorMkZTracks
namespace Go.Proofs.YtockdfnnhkhlkaaGreatDoor.G
open Go.RowKit Go.Shelf Go.Proofs.YtockdfnnhkhlkaaGreatDoorW Go.Proofs.YtockdfnnhkhlkaaGreatDoorW.PrintWords Go.Proofs.YtockdfnnhkhlkaaGreatDoorW.PrintLast Go.Proofs.YtockdfnnhkhlkaaGreatDoorW.PrintMore Go.Proofs.YtockdfnnhkhlkaaGreatDoor.PNum
set_option linter.unusedVariables false
set_option linter.unusedSimpArgs false
attribute [local go_sem] Oper.semAt_some
def run_r7.T : Bool × List (List Nat × List Nat) := (true, [([], []), ([], []), ([], []), ([1, 2], [1, 2]), ([3], [3]), ([0, 4, 3], [0, 4]), ([5, 5, 0, 1, 2, 3, 4, 5], [5])])
def run_r7.B : List Nat := [0, 0, 0, 6, 14, 31, 63]
theorem run_r7.tab : rtab .any (opsOf Tryz.f26 7) = run_r7.T := by kernel_rfl
theorem run_r7.bits : waitsOk run_r7.T.2 run_r7.B = true := by kernel_rfl
def run_r7.l0 : Array Bool := bl 7 1
def run_r7.l1 : Array Bool := bl 7 3
def run_r7.l2 : Array Bool := bl 7 7
def run_r7.l3 : Array Bool := bl 7 15
def run_r7.l4 : Array Bool := bl 7 31
def run_r7.l5 : Array Bool := bl 7 63
def run_r7.l6 : Array Bool := bl 7 127
def run_r8.T : Bool × List (List Nat × List Nat) := (true, [([], []), ([], []), ([1], [1]), ([2], [2]), ([], []), ([4], [4]), ([3, 5], [3, 5]), ([0, 6], [0, 6]), ([7, 3, 0, 1, 2, 3, 4, 5, 6, 7], [7])])
def run_r8.B : List Nat := [0, 0, 2, 6, 0, 16, 62, 127, 255]
theorem run_r8.tab : rtab .any (opsOf Tryz.f26 8) = run_r8.T := by kernel_rfl
theorem run_r8.bits : waitsOk run_r8.T.2 run_r8.B = true := by kernel_rfl
def run_r8.l0 : Array Bool := bl 9 1
def run_r8.l1 : Array Bool := bl 9 3
def run_r8.l2 : Array Bool := bl 9 7
def run_r8.l3 : Array Bool := bl 9 23
def run_r8.l4 : Array Bool := bl 9 55
def run_r8.l5 : Array Bool := bl 9 63
def run_r8.l6 : Array Bool := bl 9 127
def run_r8.l7 : Array Bool := bl 9 255
def run_r8.l8 : Array Bool := bl 9 511

/-- What comes of a row of nothing: no error, no events. -/
def KRes : Kd Unit where
  sz := 2
  E := []
  K := fun _ _ cs => cs = [.int .i64 0, .slice none 0 0]
  M := fun _ _ _ _ cs => cs = [.int .i64 0, .slice none 0 0]
  K_len := fun h => by rw [h]; rfl
  K_one := fun h u hu => by
    rw [h] at hu
    simp only [List.mem_cons, List.not_mem_nil, or_false] at hu
    rcases hu with rfl | rfl <;> rfl
  K_below := fun _ h => h
  K_of_M := fun h => h
  M_mono := fun _ h => h
  M_bound := fun h => h
  M_move := fun _ h => h
  M_lower := fun _ h => h
theorem replicate_snoc (n : Nat) : List.replicate n () ++ [()] = List.replicate (n + 1) () := by rw [List.replicate_succ']
theorem info_resz : (Tryz.prog.info? 70).map (fun i => (i.zero, i.size, i.bytes)) = some (some (.agg #[.int .i64 0, .slice none 0 0]), 2, 32) := by kernel_rfl
theorem info_res : (Tryz.prog.info? 70).map (·.size) = some 2 := by kernel_rfl
theorem size0 : compact_Size.f 20 0 = some 1 := by kernel_rfl
def okR (N : Nat) (k : Nat) : Prop := N + 5 ≤ k
theorem results_cellZ {P : Program} {fn : Func} {t : Tmp} {ty : TypeId} (h : fn.results = #[.cell t ty]) (tmps : Array Value) {w : World} {g : Nat} {v : Value} (hp : tmps.getD t undef = .pointer (some ⟨g, 0, none⟩)) (hv : (loadVar ty ⟨g, 0, none⟩).run P w = .ok v w) : (results fn tmps).run P w = .ok v w := by
  have hp' : tmps[t]?.getD undef = .pointer (some ⟨g, 0, none⟩) := by rw [← hp]; simp
  simp [results, h, hp', asAddr, hv]
/-- Rows of nothing. -/
theorem cutN0 (b : List Int) : cutN (0 :: b) = some ([], 1) := by
  unfold cutN
  have hh : headSize 0 = 1 := by decide
  have hv : valAt 0 (0 :: b) = 0 := by
    unfold valAt
    rw [if_neg (by decide), hh, List.take_succ_cons, List.take_zero]
    decide
  have h : takeN (0 :: b) = some (0, 1) := by
    show takeAt 0 (0 :: b) = some (0, 1)
    unfold takeAt
    rw [hv, hh, if_neg (by simp), if_neg (by decide)]
  rw [h]
  simp
theorem rowsL_zeros : ∀ k : Nat, rowsL (List.replicate k 0) = List.replicate k []
  | 0 => by rw [List.replicate_zero]; exact rowsL_none rfl
  | k + 1 => by
    rw [List.replicate_succ, rowsL_some (cutN0 _), List.drop_succ_cons, List.drop_zero, rowsL_zeros k, List.replicate_succ]
theorem bytes_zeros (k : Nat) : IsBytes (List.replicate k 0) := fun c hc => by rw [List.eq_of_mem_replicate hc]; decide

/-- Blocks of a new chain lie below N. -/
structure Bnd (N c L q r a g T : Nat) (lv : Value) : Prop where
  c : c < N
  L : L < N
  q : q < N
  r : r < N
  a : a < N
  g : g < N
  T : T < N
  row : ∀ k, lv.ownBlock = some k → k < N
theorem NewChain.bnd {B : Nat} {w : World} {c : Nat} {n : Int} {L q V r p a g T cap : Nat} {v : Value} (h : NewChain B w c n L q V r p a g T cap v) : Bnd w.heap.size c L q r a g T v :=
  ⟨h.chain.chain.lt (by simp), h.ledger.box.lt (by simp), h.ledger.grid.lt (by simp), World.block_lt_of_cell? w _ h.chain.refer.at0, h.chain.agenda.lt (by simp), World.block_lt_of_cell? w _ h.chain.refer.refs.none, World.block_lt_of_cell? w _ h.chain.refer.m0, Kd.R_lt h.ledger.row⟩
theorem R_grownX {α : Type} {d : Kd α} {e : Nat} {W w1 : World} {base : Nat} {ok : Nat → Prop} {v : Value} {xs : List α} (h : d.R e W base ok v xs) (hE : d.E = []) {row : Option Nat} (hg : W.grownBy w1 row) (hne : ∀ k, v.ownBlock = some k → row ≠ some k) : d.R e w1 base ok v xs :=
  Kd.R_mono (Kd.R_grown (Kd.R_tight hE h) hg (fun k hk e_ => hne k hk.symm e_.symm)) (fun k hk => h.1 k hk.symm)
theorem NewChain.grown {B N : Nat} {w w' : World} {c : Nat} {n : Int} {L q V r p a g T cap : Nat} {v : Value} (h : NewChain B w c n L q V r p a g T cap v) (hN : Bnd N c L q r a g T v) {row : Option Nat} (hg : w.grownBy w' row) (hr : ∀ k, row = some k → N ≤ k) : NewChain B w' c n L q V r p a g T cap v := by
  have ne : ∀ k, k < N → some k ≠ row := fun k hk e => by have := hr k e.symm; omega
  have cl : ∀ (x : Addr) (u : Value), x.block < N → w.cell? x = some u → w'.cell? x = some u := fun x u hx hu => (World.cell?_of_block (hg.block _ (World.block_lt_of_cell? w _ hu) (ne _ hx))).trans hu
  have li : ∀ (k : Nat) (M : List Value), k < N → 0 < M.length → Lies w k M → Lies w' k M := fun k M hk hM hl => hl.of_block (hg.block k (hl.lt hM) (ne k hk))
  exact ⟨⟨li _ _ hN.c (by simp) h.chain.chain, ⟨⟨cl _ _ hN.r h.chain.refer.refs.at1, cl _ _ hN.g h.chain.refer.refs.none⟩, cl _ _ hN.r h.chain.refer.at0, cl _ _ hN.T h.chain.refer.m0, cl _ _ hN.T h.chain.refer.m1⟩, li _ _ hN.a (by simp) h.chain.agenda, h.chain.apart⟩,
    ⟨li _ _ hN.L (by simp) h.ledger.box, R_grownX h.ledger.row rfl hg (fun k hk e => ne k (hN.row k hk) e.symm), li _ _ hN.q (by simp) h.ledger.grid, h.ledger.apart⟩, h.apart, h.above⟩
theorem grownBy_any {w w' : World} (h : w.grownBy w' none) (row : Option Nat) : w.grownBy w' row := ⟨h.os, h.tape, h.output, h.size, fun k hk _ => h.block k hk (by simp)⟩
theorem grownBy_setAt (W : World) (p : Addr) (v : Value) : W.grownBy (W.setCell p v) (some p.block) :=
  ⟨rfl, rfl, rfl, by rw [World.size_setCell]; exact Nat.le_refl _, fun k _ hne => Below.heap_setCell W p v k (fun e => hne (by rw [e]))⟩
theorem grownBy_more {w W W' : World} {c : Nat} {row : Option Nat} (h : w.grownBy W (some c)) (hg : W.grownBy W' row) (hr : ∀ k, row = some k → k = c ∨ w.heap.size ≤ k) : w.grownBy W' (some c) :=
  ⟨hg.os.trans h.os, hg.tape.trans h.tape, hg.output.trans h.output, Nat.le_trans h.size hg.size, fun k hk hne => (hg.block k (Nat.lt_of_lt_of_le hk h.size) (fun e => by
    rcases hr k e.symm with e1 | e1
    · exact hne (by rw [e1])
    · omega)).trans (h.block k hk hne)⟩

set_option maxRecDepth 100000 in
set_option maxHeartbeats 8000000 in
theorem does_calls (B c : Nat) (n : Int) (L q V r p a g T cap : Nat) (lv : Value) (A : Option Addr) (ca : Nat) (w : World) (hN : NewChain B w c n L q V r p a g T cap lv) (h0 : 0 ≤ n) (h1 : n < 1073741824) :
    Calls Tryz.prog 52 #[.pointer (some ⟨c, 0, none⟩), .slice A 0 ca] w fun e w' => e = .returned (.agg #[.int .i64 0, .slice none 0 0]) ∧ NewChain B w' c (n + 1) L q V r p a g T cap lv ∧ w.grownBy w' (some c) := by
  have H0 := Aside0.mk h0
  have H1 := Aside0.mk h1
  have HBD := Aside0.mk hN.bnd
  have HN := Aside0.mk (hN.below (below_alloc (Below.refl _ _) (.cells #[.int .i64 0, .slice none 0 0] 70)))
  have HG : Aside0 (Lies (w.alloc (.cells #[.int .i64 0, .slice none 0 0] 70)) w.heap.size [.int .i64 0, .slice none 0 0]) := ⟨Lies.box (t := 70) (blk_new w _)⟩
  have HW : Aside0 (w.grownBy (w.alloc (.cells #[.int .i64 0, .slice none 0 0] 70)) none) := ⟨World.grownBy_alloc w _ none⟩
  clear hN h0 h1
  go_enter Tryz.func52, Tryz.ntmps52
  go_upto_region 2 with (fail)
  generalize w.alloc (.cells #[.int .i64 0, .slice none 0 0] 70) = w1 at HN HG HW ⊢
  go_wp2_with (go_at_call 10; go_loud (refine (block_calls c n L V r p a g T cap _ HN.out.chain H0.out H1.out).mono ?_; rintro e w4 ⟨rfl, hC, hb⟩; have HC4 := Aside0.mk hC; have HB4 := Aside0.mk hb; have n1_ := (HG.out.set_far (b := c) (by have := HBD.out.c; omega) 0 (.int .i64 (n + 1))).below hb (HG.out.lt (by simp)); have HG4 := Aside0.mk n1_; have g0 := n1_.cell (i := 0) rfl; have g1 := n1_.cell (i := 1) rfl; have f0 := n1_.frozen 0 (by simp); have f1 := n1_.frozen 1 (by simp); clear hC hb n1_))
  have n0_ := (HG4.out.set 0 (by simp) (.int .i64 0)).set 1 (by simp) (.slice none 0 0)
  refine bodyPost_ret (results_cellZ rfl _ rfl (run_loadVar_mid _ _ 0 70 [.int .i64 0, .slice none 0 0] _ n0_.range Tryz.underlying70 rfl info_res)) rfl ?_
  have hN4 : NewChain B w4 c (n + 1) L q V r p a g T cap lv := ⟨HC4.out, (HN.out.ledger.set_far HN.out.apart.1 HN.out.apart.2.1 HN.out.apart.2.2 (.int .i64 (n + 1))).below (by rw [World.size_setCell]; exact HB4.out), HN.out.apart, HN.out.above⟩
  have hg4 : w.grownBy w4 (some c) := grownBy_more (grownBy_any HW.out (some c)) (World.grownBy.trans (grownBy_setCell' w1 c (.int .i64 (n + 1))) (grownBy_any (below_grown (by rw [World.size_setCell]; exact HB4.out)) (some c))) (fun k e => .inl (Option.some.inj e).symm)
  refine ⟨rfl, ?_, ?_⟩
  · exact (hN4.grown HBD.out (grownBy_setAt w4 ⟨w.heap.size, 0, none⟩ _) (fun k e => by have := Option.some.inj e; subst this; exact Nat.le_refl _)).grown HBD.out (grownBy_setAt _ ⟨w.heap.size, 1, none⟩ _) (fun k e => by have := Option.some.inj e; subst this; exact Nat.le_refl _)
  · exact grownBy_more (grownBy_more hg4 (grownBy_setAt w4 ⟨w.heap.size, 0, none⟩ _) (fun k e => .inr (by have := Option.some.inj e; subst this; exact Nat.le_refl _))) (grownBy_setAt _ ⟨w.heap.size, 1, none⟩ _) (fun k e => .inr (by have := Option.some.inj e; subst this; exact Nat.le_refl _))

/-- Where a run stands behind n rows of nothing. -/
structure RunJ (N : Nat) (w : World) (B c : Nat) (n0 : Int) (L q V r p a g T cap : Nat) (lv : Value) (n : Nat) (W : World) : Prop where
  chain : NewChain B W c (n0 + (n : Int)) L q V r p a g T cap lv
  out : ∃ v, Boxed W (N + 1) 67 v ∧ KRes.R 70 W N (okR N) v (List.replicate n ())
  num : Boxed W (N + 1 + 1) 3 (.int .i64 (n : Int))
  box : Boxed W N 32 (.pointer (some ⟨c, 0, none⟩))
  grown : w.grownBy W (some c)
  size : N + 5 ≤ W.heap.size
theorem R_row {α : Type} {d : Kd α} {e : Nat} {W : World} {base : Nat} {ok : Nat → Prop} {v : Value} {xs : List α} (h : d.R e W base ok v xs) : ∀ k o, v.ownBlock = some k → W.heap[k]? = some o → o.isCells = true := by
  intro k o hk ho
  obtain ⟨_, inner, hown, _⟩ := h
  rcases hown.2 with ⟨e1, _⟩ | ⟨g, cap, cur, e1, _, hgb, _⟩
  · rw [e1] at hk; simp [Value.ownBlock] at hk
  · rw [e1] at hk
    have : g = k := by simpa [Value.ownBlock] using hk
    subst this
    rw [hgb] at ho
    injection ho with ho
    subst ho
    rfl
theorem RunJ.moved {N : Nat} {w W W' : World} {B c : Nat} {n0 : Int} {L q V r p a g T cap : Nat} {lv : Value} {n : Nat} (h : RunJ N w B c n0 L q V r p a g T cap lv n W) (hN : w.heap.size = N) (hB : Bnd N c L q r a g T lv) {row : Option Nat} (hg : W.grownBy W' row) (hr : ∀ k, row = some k → N + 5 ≤ k ∧ ∃ o, W.heap[k]? = some o ∧ o.isCells = false) : RunJ N w B c n0 L q V r p a g T cap lv n W' := by
  obtain ⟨v, hv, hR⟩ := h.out
  have ne : ∀ k, k < N + 5 → some k ≠ row := fun k hk e => by have := (hr k e.symm).1; omega
  refine ⟨h.chain.grown hB hg (fun k e => by have := (hr k e).1; omega), ⟨v, hv.kept hg (ne _ (by omega)), R_grownX hR rfl hg (fun k hk e => ?_)⟩, h.num.kept hg (ne _ (by omega)), h.box.kept hg (ne _ (by omega)), grownBy_more h.grown hg (fun k e => .inr (by have := (hr k e).1; omega)), Nat.le_trans h.size hg.size⟩
  obtain ⟨_, o, ho, hc⟩ := hr k e
  have := R_row hR k o hk ho
  rw [this] at hc
  cases hc
/-- What a step of a round does to what the loop keeps. -/
def Stp (N c : Nat) (W W' : World) : Prop := KeepsFrom (N + 5) W W' ∧ KeepsS (fun k => k < N + 5 ∧ k ≠ c ∧ k ≠ N + 1 ∧ k ≠ N + 1 + 1) W W'
theorem Stp.trans {N c : Nat} {X Y Z : World} (h : Stp N c X Y) (k : Stp N c Y Z) : Stp N c X Z := ⟨h.1.trans k.1, keepsS_t h.2 k.2⟩
theorem stp_of {N c : Nat} {W W' : World} {row : Option Nat} (hs : N + 5 ≤ W.heap.size) (hc : c < N) (hg : W.grownBy W' row) (h1 : ∀ k, row = some k → k = c ∨ k = N + 1 ∨ k = N + 1 + 1 ∨ (N + 5 ≤ k ∧ ∀ o, W.heap[k]? = some o → o.isCells = true)) : Stp N c W W' := by
  refine ⟨⟨hg.size, fun k o hB hk ho => (hg.block k (Array.getElem?_eq_some_iff.1 hk).1 (fun e => ?_)).trans hk⟩, ⟨hg.size, fun k hk => hg.block k (by omega) (fun e => ?_)⟩⟩
  · rcases h1 k e.symm with e1 | e1 | e1 | ⟨_, e1⟩
    · omega
    · omega
    · omega
    · rw [e1 o hk] at ho; cases ho
  · rcases h1 k e.symm with e1 | e1 | e1 | ⟨e1, _⟩ <;> omega

set_option maxHeartbeats 1000000 in
theorem srows_in (n : Nat) (hn : 2 ≤ n) (a : Option Addr) (len cap : Nat) (w : World) :
    CallsIn Fence.wide n Tryz.prog 21 #[.slice a len cap] w fun e w' => e = .returned (.func (.func 150) #[] #[.pointer (some ⟨w.heap.size, 0, none⟩), .pointer (some ⟨w.heap.size + 1, 0, none⟩)]) ∧ w' = (w.alloc (.cells #[.slice a len cap] 50)).alloc (.cells #[.func (.func 89) #[] #[]] 163) := by
  have hn1 : 1 ≤ n := by omega
  refine callsIn_of_wp Tryz.func21 rfl trivial ?_ rfl
  simp only [Tryz.ntmps21, List.size_toArray, List.length_cons, List.length_nil, Nat.reduceAdd, Nat.reduceSub, Array.replicate_succ, Array.replicate_zero, List.push_toArray, List.append_toArray, List.nil_append, List.cons_append]
  gi_wp2_with (refine ⟨trivial, ?_⟩; gi_at_call 44; refine (rows_in _ (by omega) _ _ _ _).mono ?_; rintro e w' ⟨rfl, rfl⟩)
  go_ret
  exact ⟨rfl, rfl⟩

set_option maxRecDepth 100000 in
set_option maxHeartbeats 16000000 in
theorem run_calls (B c : Nat) (n0 : Int) (L q V r p a g T cap : Nat) (lv : Value) (A : Option Addr) (b : List Int) (ca : Nat) (w : World) (hN : NewChain B w c n0 L q V r p a g T cap lv) (hn0 : 0 ≤ n0) (hn1 : n0 ≤ 1000000) (hC : Kd.C (Kd.int .u8) w A b.length b) (hz : b = List.replicate b.length 0) (hk : b.length ≤ 1000) (hca : b.length ≤ ca) (hAc : ∀ ad, A = some ad → 0 < b.length → ad.block ≠ c) :
    Calls Tryz.prog 26 #[.pointer (some ⟨c, 0, none⟩), .slice A b.length ca] w fun e w' => ∃ v, e = .returned v ∧ KRes.R 70 w' w.heap.size (okR w.heap.size) v (List.replicate b.length ()) ∧ NewChain B w' c (n0 + (b.length : Int)) L q V r p a g T cap lv ∧ w.grownBy w' (some c) := by
  have hBN := hN.bnd
  have hrl : rowsL b = List.replicate b.length [] := by rw [hz, rowsL_zeros, List.length_replicate]
  have hbz : IsBytes b := by rw [hz]; exact bytes_zeros _
  have hlt : ∀ ad, A = some ad → 0 < b.length → ad.block < w.heap.size := fun ad e hn => by subst e; exact Kd.C_lt hC hn (by decide)
  have hcN := hBN.c
  clear hz
  refine (callsIn_wide (n := 6)).1 ?_
  refine callsIn_of_wp_marks Tryz.func26 rfl trivial ?_ rfl
  simp only [Tryz.ntmps26, List.size_toArray, List.length_cons, List.length_nil, Nat.reduceAdd, Nat.reduceSub, Array.replicate_succ, Array.replicate_zero, List.push_toArray, List.append_toArray, List.nil_append, List.cons_append]
  gi_wp2_with (refine ⟨trivial, ?_⟩; gi_at_call 21; refine (srows_in _ (by decide) _ _ _ _).mono ?_; rintro e w' ⟨rfl, rfl⟩)
  obtain ⟨W0, hW0⟩ : ∃ W0, W0 = (((((w.alloc (.cells #[.pointer (some ⟨c, 0, none⟩)] 32)).alloc (.cells #[.slice none 0 0] 67)).alloc (.cells #[.int .i64 0] 3)).alloc (.cells #[.slice A b.length ca] 50)).alloc (.cells #[.func (.func 89) #[] #[]] 163)) := ⟨_, rfl⟩
  rw [← hW0]
  have hsz : W0.heap.size = w.heap.size + 5 := by rw [hW0]; simp
  have bC : Boxed W0 w.heap.size 32 (.pointer (some ⟨c, 0, none⟩)) := by rw [hW0]; exact (((((Boxed.at (by simp) _ _).alloc _).alloc _).alloc _).alloc _)
  have bR : Boxed W0 (w.heap.size + 1) 67 (.slice none 0 0) := by rw [hW0]; exact ((((Boxed.at (by simp) _ _).alloc _).alloc _).alloc _)
  have bA : Boxed W0 (w.heap.size + 1 + 1) 3 (.int .i64 0) := by rw [hW0]; exact (((Boxed.at (by simp) _ _).alloc _).alloc _)
  have bB : Boxed W0 (w.heap.size + 1 + 1 + 1) 50 (.slice A b.length ca) := by rw [hW0]; exact ((Boxed.at (by simp) _ _).alloc _)
  have bN : Boxed W0 (w.heap.size + 1 + 1 + 1 + 1) 163 (.func (.func 89) #[] #[]) := by rw [hW0]; exact (Boxed.at (by simp) _ _)
  have hB0 : Below w.heap.size w W0 := by
    rw [hW0]
    exact (((((Below.refl _ w).alloc (Nat.le_refl _) _).alloc (by simp) _).alloc (by simp; omega) _).alloc (by simp; omega) _).alloc (by simp; omega) _
  clear hW0
  have hJ0 : RunJ w.heap.size w B c n0 L q V r p a g T cap lv 0 W0 := ⟨by have := hN.below hB0; simpa using this, ⟨_, bR, Kd.R_nil _ _ _ _ _⟩, bA, bC, grownBy_any (below_grown hB0) _, by omega⟩
  refine wpIn_rangeFunc_T rfl (by decide) (gf := 150) (lb := #[.pointer (some ⟨w.heap.size + 1 + 1 + 1, 0, none⟩), .pointer (some ⟨w.heap.size + 1 + 1 + 1 + 1, 0, none⟩)]) rfl trivial (enters_of Tryz.func150 (by kernel_rfl) rfl)
    (rows_stops _ (by decide) (w.heap.size + 1 + 1 + 1) (w.heap.size + 1 + 1 + 1 + 1) A ca b hbz (by omega) hca (fun j => j < w.heap.size + 5 ∧ j ≠ c ∧ j ≠ w.heap.size + 1 ∧ j ≠ w.heap.size + 1 + 1) (by omega) (by omega) (fun ad e hn => by have h1 := hlt ad e hn; have h2 := hAc ad e hn; omega) W0 (by intro j hj; omega) bB.cell bN.cell (Kd.C_below hC hB0)) (rowT_from _ _) keepsS_t (keepsS_b (by intro j hj; omega)) (Below.refl _ _) (fun _ => rfl)
    (fun (pre : List RowAt) W => RunJ w.heap.size w B c n0 L q V r p a g T cap lv pre.length W)
    (fun c' (pre : List RowAt) W => False)
    (fun s X Y row hs hg hr => hs.moved rfl hBN hg (fun j e => by obtain ⟨h1, h2⟩ := hr j e; exact ⟨by omega, h2⟩))
    (fun c' => fun _ _ _ _ hs _ _ => hs)
    hJ0 ?a1 ?assign ?body ?done ?stop
  case assign =>
    intro l x W K hK
    gi_wp2
    exact hK
  case body =>
    rintro l pre ⟨x1, xv, xl⟩ W1 W2 hJ1 hb12 ⟨hx1, hx2, hxv⟩ hlt'
    have hxl : xl = [] := by
      have hx2' : (rowsL b)[pre.length]? = some xl := hx2
      rw [hrl, List.getElem?_replicate] at hx2'
      split at hx2'
      · injection hx2' with h; exact h.symm
      · cases hx2'
    subst hxl
    have hpl : pre.length < b.length := by rw [hrl, List.length_replicate] at hlt'; exact hlt'
    obtain ⟨Ax, cx, hxe⟩ := Kd.R_slice hxv
    have hxe' : xv = .slice Ax 0 cx := hxe
    subst hxe'
    have hJ2 := hJ1.moved rfl hBN (below_grown hb12) (fun j e => by cases e)
    have hJ3 := hJ2.moved rfl hBN (below_grown (Below.drew (Below.refl _ _))) (fun j e => by cases e)
    obtain ⟨v, hv, hR⟩ := hJ3.out
    have HS7 := And.intro hv.cell hJ3.box.cell
    have HV2 := Aside0.mk hv
    have HR2 := Aside0.mk hR
    have HN2 := Aside0.mk hJ3.chain
    have HC2 := Aside0.mk hJ3.box
    have HA2 := Aside0.mk hJ3.num
    have HGR2 := Aside0.mk hJ3.grown
    have HZ2 := Aside0.mk hJ3.size
    have HLT : Aside0 (c < w.heap.size) := ⟨hcN⟩
    have HBND := Aside0.mk hBN
    have HPL : Aside0 (pre.length < b.length ∧ b.length ≤ 1000) := ⟨hpl, hk⟩
    have HP0 : Aside0 (0 ≤ n0 + (pre.length : Int)) := ⟨by omega⟩
    have HP1 : Aside0 (n0 + (pre.length : Int) < 1073741824) := ⟨by omega⟩
    have hoo : ∀ k, v.ownBlock = some k → w.heap.size + 5 ≤ k := fun k hk => hR.1 k hk
    have HCO : Aside0 (some c ≠ v.ownBlock) := ⟨fun e => by have := hoo c e.symm; omega⟩
    have HOo : Aside0 (some (w.heap.size + 1) ≠ v.ownBlock) := ⟨fun e => by have := hoo _ e.symm; omega⟩
    have HOc : Aside0 (some w.heap.size ≠ v.ownBlock) := ⟨fun e => by have := hoo _ e.symm; omega⟩
    have HOa : Aside0 (some (w.heap.size + 1 + 1) ≠ v.ownBlock) := ⟨fun e => by have := hoo _ e.symm; omega⟩
    have HOW := Aside0.mk hoo
    have e1 : IntKind.i64.wrap ((pre.length : Int) + 1) = (pre.length : Int) + 1 := IntWalk.i64_in _ (by omega)
    have e1' : wrap64 ((pre.length : Int) + 1) = (pre.length : Int) + 1 := wrapI (by omega) (by omega)
    have HE1 : Aside0 (wrap64 ((pre.length : Int) + wrap64 1) = (pre.length : Int) + 1) := ⟨by rw [wrapI (a := 1) (by decide) (by decide)]; exact e1'⟩
    have HST2 : Aside0 (Stp w.heap.size c W2 W2.drew) := ⟨stp_of hJ2.size hcN (below_grown (Below.drew (Below.refl _ _))) (fun j e => by cases e)⟩
    clear hJ1 hJ2 hJ3 hb12 hx1 hx2 hxv hv hR hlt' hoo hpl hn0 hn1 hk hca hC hAc hlt hbz
    gi_wp2
    simp only [List.length_nil]
    refine startR_ (m := 7) (S := fun w' => w'.cell? ⟨w.heap.size + 1, 0, none⟩ = some v ∧ w'.cell? ⟨w.heap.size, 0, none⟩ = some (.pointer (some ⟨c, 0, none⟩))) (ds := [6]) #[false, false, false, false, false, false, false] (by intro o ho c; simp only [List.mem_toArray, List.mem_cons, List.not_mem_nil, or_false] at ho; (repeat' (rcases ho with rfl | ho)) <;> first | (intro e; cases e; done) | (subst ho; intro e; cases e)) (by rintro ⟨_, _, h_⟩; exact h_) (by kernel_rfl) rfl rfl HS7 (fun hHeld => ?_)
    refine with_tabW run_r7.tab run_r7.bits (fun HT_ HW_ => ?_)
    refine tk HT_ HW_ hHeld 0 (some 15) run_r7.l0 (hr := by intro w' hs_; obtain ⟨s0, s1⟩ := hs_; go_simp; with_reducible rfl) (h := ?_)
    refine tk HT_ HW_ hHeld 1 (some 16) run_r7.l1 (hr := by intro w' hs_; obtain ⟨s0, s1⟩ := hs_; go_simp; with_reducible rfl) (h := ?_)
    refine pu HT_ 2 (some 17) run_r7.l2 (h := ?_)
    refine one_ (i := 3) (N := some 18) run_r7.l3 rfl rfl (one_of HT_.out (by kernel_rfl)) (by decide) (fun K hK => ?_)
    refine goes_ Tryz.func52 (by kernel_rfl) rfl #[.pointer (some ⟨c, 0, none⟩), .slice Ax 0 cx] (by rfl) rfl rfl (by (try simp only [List.map_toArray, List.map_cons, List.map_nil]); first | done | rfl) ?_
    refine (does_calls B c (n0 + (pre.length : Int)) L q V r p a g T cap lv Ax cx _ HN2.out HP0.out HP1.out).mono ?_
    rintro e w3 ⟨rfl, hN3, hg3⟩
    refine ⟨_, rfl, ?_⟩
    have HN3 := Aside0.mk hN3
    have HG3 := Aside0.mk hg3
    clear hN3 hg3
    have HV3 := Aside0.mk (HV2.out.kept HG3.out (by intro e; have := Option.some.inj e; have := HLT.out; omega))
    have HC3 := Aside0.mk (HC2.out.kept HG3.out (by intro e; have := Option.some.inj e; have := HLT.out; omega))
    have HA3 := Aside0.mk (HA2.out.kept HG3.out (by intro e; have := Option.some.inj e; have := HLT.out; omega))
    have HR3 := Aside0.mk (Kd.R_grown1 HR2.out rfl HG3.out HCO.out)
    have HZ3 : Aside0 (w.heap.size + 5 ≤ w3.heap.size) := ⟨Nat.le_trans HZ2.out HG3.out.size⟩
    refine hK.out _ _ ⟨HV3.out.cell, HC3.out.cell⟩ (fun hHeld => ?_)
    clear hK K
    refine norm_ (a' := ?_) ?_ ?_
    rotate_left
    · show Act.put _ (some 18) _ = _
      simp only [Act.put, List.setIfInBounds_toArray, List.set_cons_zero, List.set_cons_succ, i64_w, i32_w]
      rfl
    refine one_ (i := 4) (N := some 19) run_r7.l4 rfl rfl (one_of HT_.out (by kernel_rfl)) (by decide) (fun K hK => ?_)
    refine value_ (v := .slice (some ⟨w3.heap.size, 0, none⟩) 1 1) (w1 := w3.alloc (.cells #[.int .i64 0, .slice none 0 0] 70)) (by rfl) rfl ?_ ?_
    · go_simp
      try rfl
    refine hK.out _ _ ⟨(HV3.out.alloc _).cell, (HC3.out.alloc _).cell⟩ (fun hHeld => ?_)
    clear hK K
    refine norm_ (a' := ?_) ?_ ?_
    rotate_left
    · show Act.put _ (some 19) _ = _
      simp only [Act.put, List.setIfInBounds_toArray, List.set_cons_zero, List.set_cons_succ, i64_w, i32_w]
      rfl
    refine one_ (i := 5) (N := some 20) run_r7.l5 rfl rfl (one_of HT_.out (by kernel_rfl)) (by decide) (fun K hK => ?_)
    refine Kd.R_append_step KRes (w0 := w3) w.heap.size (by rfl) (.tmp 15) (.tmp 19) 67 70 (.agg #[.int .i64 0, .slice none 0 0]) 32 rfl Tryz.underlying67 info_resz rfl (by decide) (by decide) v (List.replicate pre.length ()) () [.int .i64 0, .slice none 0 0] (okR w.heap.size) (fun _ => False) rfl rfl rfl (fun _ h => h.elim) (fun k hk => Nat.le_trans HZ3.out hk) HR3.out (Below.refl _ _) (by have := HZ3.out; omega) (by have := HPL.out; rw [List.length_replicate]; omega) ?_
    intro v1 w4 hR_ hb_ hg_ _
    have HSL : Aside0 (∃ X n1 c1, v1 = .slice X n1 c1) := ⟨by obtain ⟨X, c1, h_⟩ := Kd.R_slice hR_; exact ⟨X, _, c1, h_⟩⟩
    rw [replicate_snoc] at hR_
    have HG4 : Aside0 (w3.grownBy w4 v.ownBlock) := ⟨hg_⟩
    have HR4 := Aside0.mk hR_
    have HV4 := Aside0.mk (HV3.out.kept HG4.out HOo.out)
    have HC4 := Aside0.mk (HC3.out.kept HG4.out HOc.out)
    have HA4 := Aside0.mk (HA3.out.kept HG4.out HOa.out)
    clear hR_ hb_ hg_
    refine hK.out _ _ ⟨HV4.out.cell, HC4.out.cell⟩ (fun hHeld => ?_)
    clear hK K
    refine norm_ (a' := ?_) ?_ ?_
    rotate_left
    · show Act.put _ (some 20) _ = _
      simp only [Act.put, List.setIfInBounds_toArray, List.set_cons_zero, List.set_cons_succ, i64_w, i32_w]
      rfl
    refine last_ (i := 6) (N := none) run_r7.l6 rfl rfl (one_of HT_.out (by kernel_rfl)) (by decide) (fun K hK => ?_)
    refine skip_ (w1 := w4.setCell ⟨w.heap.size + 1, 0, none⟩ v1) (by rfl) rfl ?_ ?_
    · obtain ⟨X, n1, c1, hv_⟩ := HSL.out
      subst hv_
      have s0 := HV4.out.cell
      have f0 := HV4.out.frozen
      go_simp
    refine hK.out _ _ ?_
    clear hK K
    refine done_ (done_of HT_.out (by kernel_rfl)) ?_
    clear HT_ HW_
    have hv5 : ∀ k, v1.ownBlock = some k → w.heap.size + 5 ≤ k := fun k hk => HR4.out.1 k hk
    have n0_ := HV4.out.set v1
    have n1_ := HA4.out.other (B' := w.heap.size + 1) (by omega) v1
    have n2_ := HC4.out.other (B' := w.heap.size + 1) (by omega) v1
    have n3_ := (HN3.out.grown HBND.out HG4.out (fun k e => by have := HOW.out k e; omega)).grown HBND.out (grownBy_setAt w4 ⟨w.heap.size + 1, 0, none⟩ v1) (fun k e => by have := Option.some.inj e; subst this; exact Nat.le_succ _)
    have n4_ := R_grownX HR4.out rfl (grownBy_setAt w4 ⟨w.heap.size + 1, 0, none⟩ v1) (fun k hk e => by have := hv5 k hk; have := Option.some.inj e; subst this; simp only at *; omega)
    have n5_ : Stp w.heap.size c W2 (w4.setCell ⟨w.heap.size + 1, 0, none⟩ v1) :=
      ((HST2.out.trans (stp_of HZ2.out HLT.out HG3.out (fun k e => .inl (Option.some.inj e).symm))).trans (stp_of HZ3.out HLT.out HG4.out (fun k e => .inr (.inr (.inr ⟨HOW.out k e, fun o ho => R_row HR3.out k o e ho⟩))))).trans (stp_of (Nat.le_trans HZ3.out HG4.out.size) HLT.out (grownBy_setAt w4 ⟨w.heap.size + 1, 0, none⟩ v1) (fun k e => .inr (.inl (Option.some.inj e).symm)))
    have n6_ := grownBy_more (grownBy_more (grownBy_more HGR2.out HG3.out (fun k e => .inl (Option.some.inj e).symm)) HG4.out (fun k e => .inr (by have := HOW.out k e; omega))) (grownBy_setAt w4 ⟨w.heap.size + 1, 0, none⟩ v1) (fun k e => .inr (by have := Option.some.inj e; subst this; exact Nat.le_succ _))
    have n7_ : w.heap.size + 5 ≤ (w4.setCell ⟨w.heap.size + 1, 0, none⟩ v1).heap.size := by rw [World.size_setCell]; exact Nat.le_trans HZ3.out HG4.out.size
    generalize World.setCell w4 _ _ = w5 at n0_ n1_ n2_ n3_ n4_ n5_ n6_ n7_ ⊢
    have HV5 := Aside0.mk n0_
    have HC5 := Aside0.mk n2_
    have HN5 := Aside0.mk n3_
    have HR5 := Aside0.mk n4_
    have HST5 := Aside0.mk n5_
    have HGR5 := Aside0.mk n6_
    have HZ5 := Aside0.mk n7_
    have HA5 := Aside0.mk (n1_.kept (below_grown (Below.drew (Below.refl _ _))) (by simp))
    have HS8 := HA5.out.cell
    clear n0_ n1_ n2_ n3_ n4_ n5_ n6_ n7_ hv5 hHeld
    gi_wp2
    refine startR_ (m := 9) (S := fun w' => w'.cell? ⟨w.heap.size + 1 + 1, 0, none⟩ = some (.int .i64 (pre.length : Int))) (ds := [8]) #[false, false, false, false, false, false, false, false, false] (by intro o ho c; simp only [List.mem_toArray, List.mem_cons, List.not_mem_nil, or_false] at ho; (repeat' (rcases ho with rfl | ho)) <;> first | (intro e; cases e; done) | (subst ho; intro e; cases e)) (by rintro ⟨_, _, h_⟩; exact h_) (by kernel_rfl) rfl rfl HS8 (fun hHeld => ?_)
    refine with_tabW run_r8.tab run_r8.bits (fun HT_ HW_ => ?_)
    refine tk HT_ HW_ hHeld 0 (some 21) run_r8.l0 (hr := by intro w' hs_; have s0 := hs_; go_simp; with_reducible rfl) (h := ?_)
    refine pu HT_ 1 (some 22) run_r8.l1 (h := ?_)
    refine pu HT_ 2 (some 23) run_r8.l2 (h := ?_)
    refine pu HT_ 4 (some 25) run_r8.l3 (h := ?_)
    refine pu HT_ 5 (some 26) run_r8.l4 (h := ?_)
    refine one_ (i := 3) (N := some 24) run_r8.l5 rfl rfl (one_of HT_.out (by kernel_rfl)) (by decide) (fun K hK => ?_)
    refine goes_ Tryz.func53 (by kernel_rfl) rfl #[.int .i64 0] (by rfl) rfl rfl (by (try simp only [List.map_toArray, List.map_cons, List.map_nil]); first | done | rfl) ?_
    refine (compact_Size.calls 20 0 1 _ size0).mono ?_
    rintro e w6 ⟨rfl, hd_⟩
    refine ⟨_, rfl, ?_⟩
    have HD6 := Aside0.mk hd_
    clear hd_
    have HA6 := Aside0.mk (HA5.out.kept (below_grown HD6.out) (by simp))
    refine hK.out _ _ HA6.out.cell (fun hHeld => ?_)
    clear hK K
    refine norm_ (a' := ?_) ?_ ?_
    rotate_left
    · show Act.put _ (some 24) _ = _
      simp only [Act.put, List.setIfInBounds_toArray, List.set_cons_zero, List.set_cons_succ, i64_w, i32_w]
      rfl
    refine pu HT_ 6 (some 27) run_r8.l6 (h := ?_)
    refine pu HT_ 7 (some 28) run_r8.l7 (h := ?_)
    refine last_ (i := 8) (N := none) run_r8.l8 rfl rfl (one_of HT_.out (by kernel_rfl)) (by decide) (fun K hK => ?_)
    refine skip_ (w1 := w6.setCell ⟨w.heap.size + 1 + 1, 0, none⟩ (.int .i64 ((pre.length : Int) + 1))) (by rfl) rfl ?_ ?_
    · have s0 := HA6.out.cell
      have f0 := HA6.out.frozen
      go_simp
      rw [HE1.out]
    refine hK.out _ _ ?_
    clear hK K
    refine done_ (done_of HT_.out (by kernel_rfl)) ?_
    clear HT_ HW_

    have hg : w5.grownBy (w6.setCell ⟨w.heap.size + 1 + 1, 0, none⟩ (.int .i64 ((pre.length : Int) + 1))) (some (w.heap.size + 1 + 1)) :=
      (grownBy_any (below_grown (Below.drew (Below.refl _ _))) _).trans ((grownBy_any (below_grown HD6.out) _).trans (grownBy_setAt w6 ⟨w.heap.size + 1 + 1, 0, none⟩ _))
    have hr : ∀ k, some (w.heap.size + 1 + 1) = some k → w.heap.size ≤ k := fun k e => by have := Option.some.inj e; omega
    have hS := HST5.out.trans (stp_of HZ5.out HLT.out hg (fun k e => .inr (.inr (.inl (Option.some.inj e).symm))))
    refine ⟨by rw [hsz]; exact hS.1, hS.2, ?_⟩
    have hl : (pre ++ [(x1, Value.slice Ax 0 cx, ([] : List Int))]).length = pre.length + 1 := by simp
    show RunJ _ _ _ _ _ _ _ _ _ _ _ _ _ _ _ (pre ++ [(x1, Value.slice Ax 0 cx, ([] : List Int))]).length _
    rw [hl]
    refine ⟨?_, ⟨v1, HV5.out.kept hg (by simp), R_grownX HR5.out rfl hg (fun k hk e => by have := HR5.out.1 k hk; have := Option.some.inj e; simp only [okR] at *; omega)⟩, HA6.out.set _, HC5.out.kept hg (by intro e; have := Option.some.inj e; omega), grownBy_more HGR5.out hg (fun k e => .inr (hr k e)), Nat.le_trans HZ5.out hg.size⟩
    have h1 := HN5.out.grown HBND.out hg hr
    rwa [show n0 + (pre.length : Int) + 1 = n0 + ((pre.length + 1 : Nat) : Int) by omega] at h1
  case done =>
    rintro D ys W hD hys hJ hK
    have hln : ys.length = b.length := by
      have := congrArg List.length hys
      rwa [List.length_map, placed_length, hrl, List.length_replicate] at this
    rw [hln] at hJ
    obtain ⟨v, hv, hR⟩ := hJ.out
    have h1 := hv.cell
    have h2 := hJ.num.cell
    have hJ' := hJ.moved rfl hBN (grownBy_putObj' W D (.deferred none)) (fun j e => by have := Option.some.inj e; subst this; exact ⟨by omega, _, hK, rfl⟩)
    have hR' : KRes.R 70 (W.putObj D (.deferred none)) w.heap.size (okR w.heap.size) v (List.replicate b.length ()) := R_grownX hR rfl (grownBy_putObj' W D (.deferred none)) (fun k hk e => by
      have := Option.some.inj e
      subst this
      have := R_row hR _ _ hk hK
      cases this)
    gi_wp2
    refine ⟨by simp, .inl ⟨_, _, rfl, run_takeDeferred hK, ?_⟩⟩
    refine ⟨_, ?_, _, rfl, hR', hJ'.chain, hJ'.grown⟩
    simp [results, Tryz.f26, go_sem]
  case stop =>
    rintro D c' pre W _ _ h0 _
    exact h0.elim
end Go.Proofs.YtockdfnnhkhlkaaGreatDoor.G

/- althinglaw15.known: a block by a row of nothing. -/
namespace Go.Proofs.YtockdfnnhkhlkaaGreatDoor.G
open Go.RowKit Go.Shelf Go.Proofs.YtockdfnnhkhlkaaGreatDoorW.PrintWords Go.Proofs.YtockdfnnhkhlkaaGreatDoorW.PrintLast Go.Proofs.YtockdfnnhkhlkaaGreatDoorW.PrintMore Go.Proofs.YtockdfnnhkhlkaaGreatDoor.PNum
set_option linter.unusedVariables false
set_option linter.unusedSimpArgs false

theorem below_more {B : Nat} {w W W' : World} {row : Option Nat} (h : Below B w W) (hB : B ≤ w.heap.size) (hg : W.grownBy W' row) (hr : ∀ k, row = some k → B ≤ k) : Below B w W' :=
  h.grown hg (Nat.le_trans hB h.size) hr
theorem at_res {e : TypeId} {w : World} {base : Nat} {ok : Nat → Prop} {v : Value} {k : Nat} (h : KRes.R e w base ok v (List.replicate k ())) (hk : 0 < k) : ∃ g cap, v = .slice (some ⟨g, 0, none⟩) k cap ∧ ∀ i : Int, 0 ≤ i → i < k → w.cell? ⟨g, i.toNat * 2, none⟩ = some (.int .i64 0) ∧ w.cell? ⟨g, i.toNat * 2 + 1, none⟩ = some (.slice none 0 0) := by
  obtain ⟨g, cap, hv, _⟩ := R_shape h (by simpa using hk) (by decide)
  rw [List.length_replicate] at hv
  subst hv
  obtain ⟨_, _, hC⟩ := Kd.R_reads' h
  rw [List.length_replicate] at hC
  refine ⟨g, cap, rfl, fun i h0 h1 => ?_⟩
  obtain ⟨ad, c, e1, _, hK, hc0⟩ := Kd.C_get hC () i h0 (by simpa using h1)
  injection e1 with e1
  subst e1
  have hK' : c = [.int .i64 0, .slice none 0 0] := hK
  subst hK'
  have h2 := hc0 0 _ rfl
  have h3 := hc0 1 _ rfl
  have ea : ∀ n, (⟨g, 0, none⟩ : Addr).add n = ⟨g, n, none⟩ := fun n => by cases n <;> simp [Addr.add]
  rw [ea] at h2 h3
  exact ⟨h2, h3⟩
theorem zero_C (W : World) : Kd.C (Kd.int .u8) (W.alloc (.cells #[.int .u8 0] 5)) (some ⟨W.heap.size, 0, none⟩) 1 [0] := by
  have h := own_lit_of (enc := Value.int .u8) W 0 5 [0] (Nat.zero_le _) (by decide)
  exact (Kd.R_reads' (Kd.R_of_own (h1 := fun _ => rfl) (ok := fun _ => True) h (fun _ _ => trivial))).2.2

theorem thousand15 : althinglaw15_thousand.f 20 = some thousandL := by kernel_rfl
set_option maxRecDepth 100000 in
set_option maxHeartbeats 8000000 in
theorem known15_calls (w : World) : Calls Tryz.prog 20 #[] w fun e w' => e = .returned (.bool true) ∧ Below w.heap.size w w' := by
  go_enter Tryz.func20, Tryz.ntmps20
  go_upto_region 4 with (first
    | (go_at_call 24; go_loud ((with_reducible refine (althinglaw15_thousand.calls 20 thousandL _ thousand15).mono ?_); rintro e w1 ⟨v1, rfl, hR, hb⟩; obtain ⟨A, ca, hv, hca, hC⟩ := Kd.R_reads hR; subst hv; have HC := Aside0.mk hC; have HCA := Aside0.mk hca; have B1 := Aside0.mk hb; clear hR hC hca hb))
    | (go_at_call 25; go_loud ((with_reducible refine (althinglaw15_tracks.calls [trackA, trackB] _ rfl).mono ?_); rintro e w2 ⟨v2, rfl, hR, hb⟩; obtain ⟨tb, c2, hv, hc2, hT, hTA, hTB⟩ := two_of_R hR; subst hv; obtain ⟨_, _, hC2⟩ := Kd.R_reads' hR; have HT := Aside0.mk (And.intro hTA (And.intro hTB hC2)); have HC1 := Aside0.mk (Kd.C_below HC.out hb); have B2 := Aside0.mk (B1.out.trans (hb.mono B1.out.size)); clear hR hb hc2 hT hTA hTB hC2))
    | (go_at_call 23; go_loud (refine (chainNew_calls A ca tb c2 _ HC1.out HCA.out HT.out.1 HT.out.2.1 HT.out.2.2).mono ?_; rintro e w3 ⟨c, L, q, V, r, p, a, g, T, c3, v, rfl, hN, hb⟩; have HN := Aside0.mk hN; have B3 := Aside0.mk (B2.out.trans (hb.mono B2.out.size)); have HS2 := Aside0.mk B2.out.size; clear hN hb)))
  have HN3 := Aside0.mk (HN.out.below (below_alloc (Below.refl _ _) (.cells #[.int .u8 0] 5)))
  have B4 := Aside0.mk (below_alloc B3.out (.cells #[.int .u8 0] 5))
  have HZ := Aside0.mk (zero_C w3)
  have HCC : Aside0 (c < w3.heap.size) := ⟨HN.out.chain.chain.lt (by simp)⟩
  go_upto_region 5 with (go_at_call 26; go_loud (refine (run_calls w2.heap.size c 0 L q V r p a g T c3 v (some ⟨w3.heap.size, 0, none⟩) [0] 1 _ HN3.out (by decide) (by decide) HZ.out rfl (by decide) (by decide) (fun ad e _ => by have := Option.some.inj e; subst this; exact fun e => by have := HCC.out; simp only at e; omega)).mono ?_; rintro e w5 ⟨v5, rfl, hR5, hN5, hg5⟩; have HR5 := Aside0.mk hR5; have HN5 := Aside0.mk hN5; have HB5 := Aside0.mk (below_more B4.out (Nat.le_refl _) hg5 (fun k e => by have := Option.some.inj e; subst this; exact Nat.le_trans HS2.out HN.out.above)); clear hR5 hN5 hg5))
  obtain ⟨gv, cap, hv, hat⟩ := at_res (k := 1) HR5.out (by decide)
  subst hv
  have c0 : w5.cell? ⟨gv, 0, none⟩ = some (.int .i64 0) := (hat 0 (by decide) (by decide)).1
  clear hat
  go_wp2_with (go_at_call 11; go_loud (refine (now_calls c (0 + 1) _ (HN5.out.chain.chain.cell rfl)).mono ?_; rintro e w6 ⟨rfl, rfl⟩))
  go_ret
  exact ⟨rfl, HB5.out⟩
end Go.Proofs.YtockdfnnhkhlkaaGreatDoor.G
