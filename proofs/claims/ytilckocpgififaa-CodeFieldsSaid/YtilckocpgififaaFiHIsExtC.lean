import Derived.Test.YtilckocpgififaaFiHIsExtA
import Derived.Test.YtilckocpgififaaFiHIsExtB
import Derived.Test.YtilckocpgififaaFiHNamedK
/- code.IsExt's contract, joined; account 2's unlocking. -/
namespace Go.Proofs.Ytilckocpgififaa.G
open Go.Extern.Stop (cell)
open Go.RowKit Go.Proofs.YtilckocpgififaaW.PrintWords Go.Proofs.YtilckocpgififaaW.PrintLast Go.Proofs.YtilckocpgififaaW.PrintMore
set_option linter.unusedVariables false
set_option linter.unusedSimpArgs false

theorem isExt_calls (x : Ext) (A : Option Addr) (c : Nat) (w : World) (hx : x.sum.length = 32) (hC : Kd.C k25 w A x.call.f3.length x.call.f3) (hc : x.call.f3.length ≤ c)
    (N : Array Value) (same : Bool) (hN : ∀ w, Calls Try.prog 33 #[.agg (x.cells A c).toArray] w fun e w' => e = .returned (.agg N) ∧ Below w.heap.size w w')
    (hS : ∀ w1, Below w.heap.size w w1 → Calls Try.prog 24 #[.agg N, .agg (x.cells A c).toArray] w1 fun e w' => e = .returned (.bool same) ∧ Below w1.heap.size w1 w')
    (kv : Nat) (vr : Bool) (hv : conv_Is.f kv x.vkind x.vaye x.vlevel x.va x.vn x.vs = some vr) :
    Calls Try.prog 14 #[.agg (x.cells A c).toArray] w fun e w' => e = .returned (.bool (okE x same vr (okC 3 x.call.f0 x.call.f1 x.call.f2 x.call.f3))) ∧ Below w.heap.size w w' := by
  by_cases h : x.kind = 4
  · exact isExt_submit x A c w hx hC hc N same hN hS h kv vr hv
  · exact isExt_other x A c w hx hC hc N same hN hS h kv vr hv

/-- The same, named's and SameExt's contracts paid. -/
theorem isExt_of (x nx : Ext) (A A' : Option Addr) (c c' : Nat) (w : World) (hx : x.sum.length = 32) (hn : nx.sum.length = 32) (hC : Kd.C k25 w A x.call.f3.length x.call.f3) (hc : x.call.f3.length ≤ c)
    (hC' : Kd.C k25 w A' nx.call.f3.length nx.call.f3) (hc' : nx.call.f3.length ≤ c')
    (hN : ∀ w, Calls Try.prog 33 #[.agg (x.cells A c).toArray] w fun e w' => e = .returned (.agg (nx.cells A' c').toArray) ∧ Below w.heap.size w w')
    (f : Nat) (sc : Bool) (hs : sameF f nx.call x.call = some sc) (kv : Nat) (vr : Bool) (hv : conv_Is.f kv x.vkind x.vaye x.vlevel x.va x.vn x.vs = some vr) :
    Calls Try.prog 14 #[.agg (x.cells A c).toArray] w fun e w' => e = .returned (.bool (okE x (sc && sameX nx x) vr (okC 3 x.call.f0 x.call.f1 x.call.f2 x.call.f3))) ∧ Below w.heap.size w w' :=
  isExt_calls x A c w hx hC hc _ _ hN (fun w1 hb => code_SameExt.calls f nx x A' A c' c sc w1 hn hx (Kd.C_below hC' hb) hc' (Kd.C_below hC hb) hc hs) kv vr hv

theorem zsum_length : zSum.length = 32 := List.length_replicate
def x0 : Ext := ext0 11 2
theorem vote0 : conv_Is.f 40 0 false 0 0 0 0 = some false := by decide +kernel
theorem isExt_unlock (w : World) : Calls Try.prog 14 #[.agg (x0.cells none 0).toArray] w fun e w' => e = .returned (.bool true) ∧ Below w.heap.size w w' := by
  have h := isExt_of x0 x0 none none 0 0 w zsum_length zsum_length (Kd.C_nil _ _) (Nat.le_refl _) (Kd.C_nil _ _) (Nat.le_refl _) (named_11 x0 none 0 rfl zsum_length) 1 true rfl 40 false vote0
  have e : okE x0 (true && sameX x0 x0) false (okC 3 0 0 0 []) = true := by decide
  have e' : okE x0 (true && sameX x0 x0) false (okC 3 x0.call.f0 x0.call.f1 x0.call.f2 x0.call.f3) = true := e
  rw [e'] at h
  exact h
end Go.Proofs.Ytilckocpgififaa.G
