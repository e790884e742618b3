/- compact.Rows: the iterator over the rows of bytes, and what it hands over. -/
import Derived.Test.YtdnfknphahmofaaSeqT
import Derived.Test.YtdnfknphahmofaaHNumsAll
import Derived.Test.YtdnfknphahmofaaPRows
import Derived.Test.YtdnfknphahmofaaGx7
namespace Go.Proofs.Ytdnfknphahmofaa.G
open Go.RowKit Go.Shelf Go.Proofs.YtdnfknphahmofaaW Go.Proofs.YtdnfknphahmofaaW.PrintWords Go.Proofs.YtdnfknphahmofaaW.PrintMore Go.Proofs.Ytdnfknphahmofaa.PNum
set_option linter.unusedVariables false
set_option linter.unusedSimpArgs false
attribute [local go_sem] Oper.semAt_some

theorem cutN_size {b p : List Int} {s : Nat} (h : cutN b = some (p, s)) : 1 ≤ s ∧ s ≤ b.length ∧ p.length ≤ s := by
  unfold cutN at h
  cases hT : takeN b with
  | none => rw [hT] at h; cases h
  | some x =>
    obtain ⟨n, t⟩ := x
    rw [hT] at h
    have ht := takeN_size hT
    dsimp only at h
    split at h
    · cases h
    · injection h with h
      injection h with h1 h2
      subst h1 h2
      refine ⟨by omega, ?_, ?_⟩
      · rcases Nat.lt_or_ge b.length (t + n.toNat) with h | h
        · omega
        · exact h
      · rw [List.length_drop, List.length_take]; omega

/-- All rows that stand one behind the other at the front. -/
def rowsF : Nat → List Int → List (List Int)
  | 0, _ => []
  | f + 1, b => match cutN b with
    | none => []
    | some (p, s) => p :: rowsF f (b.drop s)
def rowsL (b : List Int) : List (List Int) := rowsF (b.length + 1) b
theorem rowsF_more (f g : Nat) : ∀ b : List Int, b.length < f → b.length < g → rowsF f b = rowsF g b := by
  induction f generalizing g with
  | zero => intro b h; omega
  | succ f ih =>
    intro b h1 h2
    cases g with
    | zero => omega
    | succ g =>
      unfold rowsF
      cases hT : cutN b with
      | none => rfl
      | some x =>
        obtain ⟨n, s⟩ := x
        have hs := cutN_size hT
        dsimp only
        rw [ih g (b.drop s) (by rw [List.length_drop]; omega) (by rw [List.length_drop]; omega)]
theorem rowsL_none {b : List Int} (h : cutN b = none) : rowsL b = [] := by simp [rowsL, rowsF, h]
theorem rowsL_some {b p : List Int} {s : Nat} (h : cutN b = some (p, s)) : rowsL b = p :: rowsL (b.drop s) := by
  have hs := cutN_size h
  unfold rowsL
  rw [rowsF, h]
  dsimp only
  rw [rowsF_more b.length ((b.drop s).length + 1) (b.drop s) (by rw [List.length_drop]; omega) (by omega)]

/-- Places beside what stands there. -/
def placedFrom {β : Type} : Nat → List β → List (Int × β)
  | _, [] => []
  | i, x :: l => ((i : Int), x) :: placedFrom (i + 1) l
def placed {β : Type} (l : List β) : List (Int × β) := placedFrom 0 l
theorem placedFrom_snoc {β : Type} (l : List β) (v : β) : ∀ i, placedFrom i (l ++ [v]) = placedFrom i l ++ [(((i + l.length : Nat) : Int), v)] := by
  induction l with
  | nil => intro i; simp [placedFrom]
  | cons x l ih => intro i; simp only [List.cons_append, placedFrom, ih, List.length_cons]; congr 3; simp; omega
theorem placed_snoc {β : Type} (l : List β) (v : β) : placed (l ++ [v]) = placed l ++ [((l.length : Int), v)] := by unfold placed; rw [placedFrom_snoc]; simp
theorem placed_length {β : Type} (l : List β) : (placed l).length = l.length := by
  have : ∀ i, (placedFrom i l).length = l.length := by
    induction l with
    | nil => intro i; rfl
    | cons x l ih => intro i; simp [placedFrom, ih]
  exact this 0
theorem placed_snds {β : Type} (l : List β) : (placed l).map (·.2) = l := by
  have : ∀ i, (placedFrom i l).map (·.2) = l := by
    induction l with
    | nil => intro i; rfl
    | cons x l ih => intro i; simp [placedFrom, ih]
  exact this 0

/-- What is handed over: the place, the row's value, the row. -/
abbrev RowAt := Int × Value × List Int
def bare (x : RowAt) : Int × List Int := (x.1, x.2.2)
/-- What holds of it where it is handed over: a row of its own, newer than all that was there (m). -/
def RowT (b : List Int) (pre : List RowAt) (x : RowAt) (m : Nat) (W : World) : Prop :=
  x.1 = (pre.length : Int) ∧ (rowsL b)[pre.length]? = some x.2.2 ∧ Kd.R (Kd.int .u8) 5 W m (fun _ => True) x.2.1 x.2.2

set_option maxRecDepth 100000 in
set_option maxHeartbeats 4000000 in
theorem rows1_in (n : Nat) (hn : 1 ≤ n) (l Bb Bn : Nat) (A : Option Addr) (cap : Nat) (b : List Int) (hb : IsBytes b) (hbl : b.length < 140737488355328) (hcap : b.length ≤ cap) (S : Nat → Prop) (hSb : S Bb) (hSn : S Bn) (hA : ∀ ad, A = some ad → 0 < b.length → S ad.block) (W : World) (hSW : ∀ k, S k → k < W.heap.size) (J Jx : List RowAt → World → Prop) (hJ : AbidesFrom W.heap.size J)
    (hY : ∀ pre x W0 W1, J pre W0 → pre.length < (rowsL b).length → Below W0.heap.size W0 W1 → RowT b pre x W0.heap.size W1 → YieldAt Fence.wide (n - 1) Try.prog l #[.int .i64 x.1, x.2.1] W1 fun e W' =>
      (e = .returned (.bool true) ∧ J (pre ++ [x]) W' ∧ KeepsS S W1 W') ∨ (e = .returned (.bool false) ∧ Jx (pre ++ [x]) W'))
    (hBb : W.cell? ⟨Bb, 0, none⟩ = some (.slice A b.length cap)) (hBn : W.cell? ⟨Bn, 0, none⟩ = some (.func (.func 22) #[] #[])) (hC : Kd.C (Kd.int .u8) W A b.length b) (h0 : J [] W) :
    CallsIn Fence.wide n Try.prog 39 #[.func (.yield l) #[] #[], .pointer (some ⟨Bb, 0, none⟩), .pointer (some ⟨Bn, 0, none⟩)] W fun e W' => (∃ v, e = .returned v) ∧
      ((∃ ys : List RowAt, ys.map bare = placed (rowsL b) ∧ J ys W') ∨ (∃ pre : List RowAt, (∃ ns, ns <+: rowsL b ∧ pre.map bare = placed ns) ∧ Jx pre W')) := by
  refine callsIn_of_wp Try.func39 rfl trivial ?_ rfl
  simp only [Try.ntmps39, List.size_toArray, List.length_cons, List.length_nil, Nat.reduceAdd, Nat.reduceSub, Array.replicate_succ, Array.replicate_zero, List.push_toArray, List.append_toArray, List.nil_append, List.cons_append]
  obtain ⟨i0, hi0, _, hsz, _⟩ := info_parts info5
  gi_wp2
  gi_loopw [4, 5] (fun left i wr => ∃ (ns : List (List Int)) (pre : List RowAt) (A' : Option Addr) (c' : Nat) (r : List Int), left = .slice A' r.length c' ∧ i = .int .i64 (ns.length : Int) ∧ rowsL b = ns ++ rowsL r ∧ pre.map bare = placed ns ∧ Kd.C (Kd.int .u8) wr A' r.length r ∧ r.length ≤ c' ∧ IsBytes r ∧ (∀ ad, A' = some ad → 0 < r.length → S ad.block) ∧ ns.length + r.length ≤ b.length ∧ J pre wr ∧ KeepsS S W wr)
    (fun left i _ => sliceLen left)
  case atStart => exact ⟨[], [], A, cap, b, rfl, rfl, rfl, rfl, hC, hcap, hb, hA, by simp, h0, KeepsS.refl _ _⟩
  case round =>
    obtain ⟨ns, pre, A', c', r, rfl, rfl, hsp, hpre, hC', hc', hbr, hA', hlen, hJs, hnx⟩ := hrel
    have hsize := hnx.1
    have hBx := (hnx.cell (p := ⟨Bn, 0, none⟩) hSn).trans hBn
    have ht := cut_tells 20 r hbr (by omega) (by decide)
    have hA'w : ∀ (k : Nat), S k → k < wr.heap.size := fun k hk => Nat.lt_of_lt_of_le (hSW k hk) hsize
    have hpl : pre.length = ns.length := by have := congrArg List.length hpre; rwa [List.length_map, placed_length] at this
    cases hT : cutN r with
    | none =>
      rw [hT] at ht
      have ht' := Lib.hid ht
      have hsp' := Lib.hid hsp
      have hpre' := Lib.hid hpre
      have hT' := Lib.hid hT
      have hpl' := Lib.hid hpl
      clear ht hsp hT hpre hpl
      gi_wp2_with (refine ⟨trivial, ?_⟩; gi_at_call 22; refine (callsIn_wide.2 (compact_Cut.calls 20 _ _ r [] 0 false _ hC' hc' ht'.out)).mono ?_; rintro e w1 ⟨v0, rfl, hv0, hb1⟩)
      refine ⟨fun _ h => (by cases h), ?_⟩
      gi_wp2
      refine bodyPost_ret (results_none rfl _ _ _) rfl ?_
      exact ⟨⟨_, rfl⟩, .inl ⟨_, by rw [hpre'.out, hsp'.out, rowsL_none hT'.out, List.append_nil], abides_below hJ hJs hb1⟩⟩
    | some x =>
      obtain ⟨v, s⟩ := x
      have hs := cutN_size hT
      have hn1 : rowsL b = (ns ++ [v]) ++ rowsL (r.drop s) := by rw [hsp, rowsL_some hT]; simp
      have hlt : pre.length < (rowsL b).length := by rw [hpl, hn1]; simp
      have hat : (rowsL b)[pre.length]? = some v := by rw [hpl, hn1, List.append_assoc, List.getElem?_append_right (Nat.le_refl _)]; simp
      obtain ⟨A2, hcut, hCr, hcc, hAA⟩ := cut_tail (P := Try.prog) 23 5 Try.underlying23 hi0 hsz A' c' r s hs.2.1 hc'
      have hrl : (r.drop s).length = r.length - s := List.length_drop
      have hw : IntKind.i64.wrap ((ns.length : Int) + 1) = ((ns ++ [v]).length : Int) := by
        have := hC.2.1
        rw [IntWalk.i64_in _ (by omega)]; simp
      have hsi : (s : Int) ≤ (r.length : Int) := by omega
      have hsi0 : (0 : Int) ≤ (s : Int) := by omega
      rw [hT] at ht
      have ht' := Lib.hid ht
      have hsp' := Lib.hid hsp
      have hn1' := Lib.hid hn1
      have hrl' := Lib.hid hrl
      have hw' := Lib.hid hw
      have hs' := Lib.hid hs
      have hT' := Lib.hid hT
      have hlt' := Lib.hid hlt
      have hat' := Lib.hid hat
      have hpre' := Lib.hid hpre
      have hpl' := Lib.hid hpl
      clear ht hsp hn1 hrl hw hs hT hlt hat hpre hpl
      gi_wp2_with (refine ⟨trivial, ?_⟩; gi_at_call 22; refine (callsIn_wide.2 (compact_Cut.calls 20 _ _ r v s true _ hC' hc' ht'.out)).mono ?_; rintro e w1 ⟨v0, rfl, hv0, hb1⟩; obtain ⟨fn, tmps, assign, body, hy, hR⟩ := hY pre ((ns.length : Int), v0, v) wr w1 hJs hlt'.out hb1 ⟨congrArg Int.ofNat hpl'.out.symm, hat'.out, hv0⟩; dsimp only at hy)
      refine hR.mono ?_
      rintro e W3 (⟨rfl, hJ3, hk3⟩ | ⟨rfl, hJx3⟩)
      · have hk1 : KeepsS S wr w1 := KeepsS.of_below hb1 hA'w
        have hC3 : Kd.C (Kd.int .u8) W3 A2 (r.drop s).length (r.drop s) := by
          refine hCr .u8 W3 (C_keeps hC' hA' (keepsS_t hk1 hk3))
        gi_wp2
        go_roundw
        case rel =>
          refine ⟨ns ++ [v], pre ++ [((ns.length : Int), v0, v)], A2, c' - s, r.drop s, ?_, ?_, hn1'.out, ?_, hC3, ?_, hbr.drop s, ?_, ?_, hJ3, keepsS_t (keepsS_t hnx hk1) hk3⟩
          · rw [hrl'.out]
          · simp
          · rw [List.map_append, hpre'.out, placed_snoc]; rfl
          · rw [hrl'.out]; exact hcc
          · intro ad' e' h'
            obtain ⟨ad, e1, e2⟩ := hAA ad' e'
            rw [e2]; exact hA' ad e1 (by rw [hrl'.out] at h'; omega)
          · rw [hrl'.out]; have := hs'.out; simp; omega
        case measure => have := hs'.out; simp [sliceLen]; omega
      · gi_wp2
        refine bodyPost_ret (results_none rfl _ _ _) rfl ?_
        exact ⟨⟨_, rfl⟩, .inr ⟨_, ⟨ns ++ [v], ⟨rowsL (r.drop s), hn1'.out.symm⟩, by rw [List.map_append, hpre'.out, placed_snoc]; rfl⟩, hJx3⟩⟩

set_option maxHeartbeats 1000000 in
theorem rowsAll_in (n : Nat) (a : Option Addr) (len cap : Nat) (w : World) :
    CallsIn Fence.wide n Try.prog 35 #[.slice a len cap, .func (.func 22) #[] #[]] w fun e w' => e = .returned (.func (.func 39) #[] #[.pointer (some ⟨w.heap.size, 0, none⟩), .pointer (some ⟨w.heap.size + 1, 0, none⟩)]) ∧ w' = (w.alloc (.cells #[.slice a len cap] 23)).alloc (.cells #[.func (.func 22) #[] #[]] 45) := by
  refine callsIn_of_wp Try.func35 rfl trivial ?_ rfl
  simp only [Try.ntmps35, List.size_toArray, List.length_cons, List.length_nil, Nat.reduceAdd, Nat.reduceSub, Array.replicate_succ, Array.replicate_zero, List.push_toArray, List.append_toArray, List.nil_append, List.cons_append]
  gi_wp2
  go_ret
  exact ⟨rfl, rfl⟩
set_option maxHeartbeats 1000000 in
theorem rows_in (n : Nat) (hn : 1 ≤ n) (a : Option Addr) (len cap : Nat) (w : World) :
    CallsIn Fence.wide n Try.prog 26 #[.slice a len cap] w fun e w' => e = .returned (.func (.func 39) #[] #[.pointer (some ⟨w.heap.size, 0, none⟩), .pointer (some ⟨w.heap.size + 1, 0, none⟩)]) ∧ w' = (w.alloc (.cells #[.slice a len cap] 23)).alloc (.cells #[.func (.func 22) #[] #[]] 45) := by
  refine callsIn_of_wp Try.func26 rfl trivial ?_ rfl
  simp only [Try.ntmps26, List.size_toArray, List.length_cons, List.length_nil, Nat.reduceAdd, Nat.reduceSub, Array.replicate_succ, Array.replicate_zero, List.push_toArray, List.append_toArray, List.nil_append, List.cons_append]
  gi_wp2_with (refine ⟨trivial, ?_⟩; gi_at_call 35; refine (rowsAll_in _ _ _ _ _).mono ?_; rintro e w' ⟨rfl, rfl⟩)
  go_ret
  exact ⟨rfl, rfl⟩

theorem rows_stops (n : Nat) (hn : 1 ≤ n) (Bb Bn : Nat) (A : Option Addr) (cap : Nat) (b : List Int) (hb : IsBytes b) (hbl : b.length < 140737488355328) (hcap : b.length ≤ cap) (S : Nat → Prop) (hSb : S Bb) (hSn : S Bn) (hA : ∀ ad, A = some ad → 0 < b.length → S ad.block) (w : World) (hSw : ∀ k, S k → k < w.heap.size)
    (hBb : w.cell? ⟨Bb, 0, none⟩ = some (.slice A b.length cap)) (hBn : w.cell? ⟨Bn, 0, none⟩ = some (.func (.func 22) #[] #[])) (hC : Kd.C (Kd.int .u8) w A b.length b) :
    SeqT Fence.wide n Try.prog 39 #[.pointer (some ⟨Bb, 0, none⟩), .pointer (some ⟨Bn, 0, none⟩)] (fun x : RowAt => #[Value.int .i64 x.1, x.2.1]) (KeepsS S) (RowT b) (fun ys => ys.map bare = placed (rowsL b))
      (fun pre => ∃ ns, ns <+: rowsL b ∧ pre.map bare = placed ns) (rowsL b).length w := fun l J Jx W hW hJ _ hY h0 => by
  have hk := KeepsS.of_below hW hSw
  exact rows1_in n hn l Bb Bn A cap b hb hbl hcap S hSb hSn hA W (fun k h => Nat.lt_of_lt_of_le (hSw k h) hW.size) J Jx hJ hY ((hk.cell (p := ⟨Bb, 0, none⟩) hSb).trans hBb) ((hk.cell (p := ⟨Bn, 0, none⟩) hSn).trans hBn) (Kd.C_below hC hW) h0

theorem wpIn_mid {F : Fence} {n : Nat} {P : Program} {c : Code} {Q : Exit → Act → World → Prop} {a : Act} {w : World} (id : Nat) (J : Nat → World → Prop)
    (h : c.wpIn F n P (fun e a' W' => (e = .normal ∨ e = .exit id) ∧ ∃ D, a' = { a with defers := { target := .collected D, args := #[] } :: a.defers } ∧ J D W') a w)
    (hQ : ∀ a W, Q .normal a W → Q (.exit id) a W) (hk : ∀ D W', J D W' → Q .normal { a with defers := { target := .collected D, args := #[] } :: a.defers } W') : c.wpIn F n P Q a w :=
  wpIn_mono h (by
    rintro e a' W' ⟨rfl | rfl, D, rfl, hj⟩
    · exact hk D W' hj
    · exact hQ _ _ (hk D W' hj))
theorem Boxed.at {W : World} {B : Nat} (hB : W.heap.size = B) (t : TypeId) (v : Value) : Boxed (W.alloc (.cells #[v] t)) B t v := by subst hB; exact Boxed.new W t v
theorem keeps_from {β : Type} {S : Nat → Prop} {A : World} {B : Nat} (hS : ∀ k, S k → k < B) (hA : ∀ k, S k → k < A.heap.size) : OwnFrom B (fun (_ : β) W => KeepsS S A W) := fun s X Y row hv hg hr =>
  keepsS_t hv ⟨hg.size, fun k hk => hg.block k (Nat.lt_of_lt_of_le (hA k hk) hv.1) (fun e => by have := (hr k e.symm).1; have := hS k hk; omega)⟩
theorem box_from {β : Type} {B D : Nat} (t : TypeId) (u : β → Value) : OwnFrom D (fun s W => Boxed W B t (u s)) := fun s X Y row hv hg hr => hv.kept hg (fun e' => by
  obtain ⟨_, o, ho, hc⟩ := hr B e'.symm
  rw [show X.heap[B]? = _ from hv] at ho; cases ho; cases hc)
theorem or_from {β : Type} {D : Nat} {E p : β → Prop} {J : β → World → Prop} (h : OwnFrom D J) : OwnFrom D (fun s W => E s ∨ (p s ∧ J s W)) := fun s X Y row hs hg hr => hs.imp id (fun q => ⟨q.1, h s X Y row q.2 hg hr⟩)
theorem Boxed.keeps {S : Nat → Prop} {A W : World} {B : Nat} {t : TypeId} {u : Value} (h : Boxed A B t u) (hk : KeepsS S A W) (hS : S B) : Boxed W B t u := (hk.2 B hS).trans h
theorem rowT_from (b : List Int) (D : Nat) : ∀ (pre : List RowAt) (x : RowAt) (m : Nat), OwnFrom D (fun (_ : Unit) W => RowT b pre x m W) := by
  rintro pre ⟨x1, xv, xl⟩ m s X Y row ⟨h1, h2, h3⟩ hg hr
  refine ⟨h1, h2, ?_⟩
  have ho := Kd.own_of_R h3
  refine Kd.R_of_own (ho.kept hg ?_) (fun _ _ => trivial)
  rcases ho.2 with ⟨e, _⟩ | ⟨g, cap, cur, e, _, hgb, _⟩
  · exact .inl (by rw [show xv = _ from e]; rfl)
  · refine .inr fun e' => ?_
    obtain ⟨_, o, ho', hc⟩ := hr g (by rw [← e', show xv = _ from e]; rfl)
    rw [hgb] at ho'; cases ho'; cases hc

end Go.Proofs.Ytdnfknphahmofaa.G
