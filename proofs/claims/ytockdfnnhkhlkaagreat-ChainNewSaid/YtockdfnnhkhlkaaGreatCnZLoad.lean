/- Loads and stores of values of many cells, in a region that draws its order. -/
import Derived.Test.YtockdfnnhkhlkaaGreatCnHLies
import Derived.Test.YtockdfnnhkhlkaaGreatCnGx0
import Derived.RangeFuncNested
import Derived.RangeFuncBound
import Derived.RangeFuncCalls
import Derived.RangeFuncLeaves
import Derived.RangeFuncBox
import Derived.Shelf.Abstract
import Derived.Shelf.RegionOpen
import Derived.OwnWalkIn
import Derived.TacticsInMore
import Derived.LoopNIn
import Derived.LoopIn
import Derived.IntWalk
import Derived.Lib.Hide
namespace Go.Proofs.YtockdfnnhkhlkaaGreat.G
open Go.RowKit Go.Shelf Go.Proofs.YtockdfnnhkhlkaaGreatW.PrintWords Go.Proofs.YtockdfnnhkhlkaaGreatW.PrintLast Go.Proofs.YtockdfnnhkhlkaaGreatW.PrintMore
set_option linter.unusedVariables false
set_option linter.unusedSimpArgs false
theorem wrapI {a : Int} (h0 : 0 ≤ a) (h : a ≤ 9223372036854775807) : wrap64 a = a := by unfold wrap64; omega
theorem R_shape {α : Type} {d : Kd α} {e : Nat} {w : World} {base : Nat} {ok : Nat → Prop} {v : Value} {xs : List α} (h : d.R e w base ok v xs) (hn : 0 < xs.length) (hs : 0 < d.sz) : ∃ g cap, v = .slice (some ⟨g, 0, none⟩) xs.length cap ∧ xs.length ≤ cap := by
  obtain ⟨A, c, hv, hc, hC⟩ := Kd.R_reads h
  obtain ⟨_, inner, ho, hr⟩ := h
  rcases ho.2 with ⟨h2, _⟩ | ⟨g, cap, cur, h2, _⟩
  · obtain ⟨ad, e1, _⟩ := hC.2.2 hn
    rw [hv, e1] at h2; cases h2
  · refine ⟨g, cap, h2, ?_⟩
    rw [hv] at h2
    injection h2 with _ _ h3
    omega
theorem load_runO' {P : Program} {o : Oper} {a : Act} {w : World} {ty : TypeId} {y : Operand} {g off : Nat} {L : List Value} {d : TypeDesc} (ho : o.op = .load ty y) (hx : a.eval y = .pointer (some ⟨g, off, none⟩)) (h : w.rangeAt g off L) (hu : P.underlying ty = some d) (hd : d.isRow = true) (hi : (P.info? ty).map (·.size) = some L.length) :
    (execOp a.eval o).run P w = .ok (.value (.agg L.toArray)) w := by
  unfold execOp
  simp only [ho, hx, Instr.loadAt, Instr.sureAddr, Sem.run_bind, Sem.run_pure, Result.andThen_ok, run_loadVar_mid w g off ty L d h hu hd hi]
theorem below_setCells {B : Nat} {w0 : World} (g : Nat) (hg : B ≤ g) : ∀ (L : List Value) (o : Nat) (w : World), Below B w0 w → Below B w0 (w.setCells g o L)
  | [], _, _, h => h
  | v :: L, o, w, h => below_setCells g hg L (o + 1) _ (h.setCell (p := ⟨g, o, none⟩) hg v)
end Go.Proofs.YtockdfnnhkhlkaaGreat.G
