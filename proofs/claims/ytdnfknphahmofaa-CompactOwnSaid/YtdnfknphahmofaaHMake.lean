/- make([]T, 0, c) with a literal c: a row of the call's own, without elements. -/
import Derived.Test.YtdnfknphahmofaaHSeq
import Derived.Laws.MakeOwn
namespace Go.Proofs.Ytdnfknphahmofaa.G
open Go.RowKit Go.Shelf Go.Proofs.YtdnfknphahmofaaW.PrintWords
set_option linter.unusedVariables false

theorem R_make_room {α : Type} {P : Program} {ops : Array Oper} {rest : List Oper} {o : Oper} {a : Act} {Q : Exit → Act → World → Prop} (d : Kd α) {w0 W : World} (base e : Nat) (hgd : o.guard = none) {N : Tmp} (hd : o.dst = some N) (t : TypeId) (x y : Operand) (ho : o.op = .makeSlice t x y) (n : Int) {c0 : Int} (hx : a.eval x = .int .i64 n) (hy : a.eval y = .int .i64 c0)
    (ht : P.underlying t = some (.slice e)) (z : Value) (bytes : Nat) (hinfo : (P.info? e).map (fun i => (i.zero, i.size, i.bytes)) = some (some z, d.sz, bytes)) (hz : z.cells.size = d.sz) (hs0 : 0 < d.sz) (hb0 : 0 < bytes)
    (z0 : α) {ok okp : Nat → Prop} (hzero : d.M W base okp z0 z.cells.toList) (hok : ∀ k, okp k → ok k) (hfresh : ok W.heap.size) (h0 : 0 ≤ n) (hl : n.toNat * bytes ≤ 281474976710656) (HB : Below base w0 W) (hbase : base ≤ W.heap.size)
    (h : ∀ v1 w1, d.R e w1 base ok v1 (List.replicate n.toNat z0) → Below base w0 w1 → W.grownBy w1 none → (∃ b, v1.ownBlock = some b ∧ W.heap.size ≤ b) → wpList P ops Q rest (a.put o.dst v1) w1) (hn : n = 0 := by rfl) (hc0 : 0 ≤ c0 ∧ c0 ≤ 100000 := by decide) (hby : bytes ≤ 100000 := by decide) : wpList P ops Q (o :: rest) a W := by
  subst hn
  obtain ⟨c, rfl⟩ := Int.eq_ofNat_of_zero_le hc0.1
  have hc : c ≤ 100000 := by omega
  obtain ⟨i0, hi, hzz⟩ := Option.map_eq_some_iff.1 hinfo
  simp only [Prod.mk.injEq] at hzz
  obtain ⟨hz0, hz1, hz2⟩ := hzz
  obtain ⟨w', hrun, r1, r2⟩ := run_make_own (P := P) (w := W) base t e i0 z d.sz ht hi hz0 hz1 .i64 .i64 c (by rw [hz2]; exact Nat.le_trans (Nat.mul_le_mul hby hc) (by decide)) (Nat.le_trans hc (by decide)) hbase
  refine Kd.event_run (v := .slice (some ⟨W.heap.size, 0, none⟩) 0 c) (w1 := w') hgd (by simp [execOp, ho, hx, hy, hrun]) (h _ _ ⟨fun k hk => ?_, [], r1, Reps.none _ _⟩ (HB.grown r2 hbase (fun _ e => by cases e)) r2 ⟨W.heap.size, rfl, Nat.le_refl _⟩)
  have : W.heap.size = k := by simpa [Value.ownBlock] using hk
  subst this
  exact hfresh

end Go.Proofs.Ytdnfknphahmofaa.G
