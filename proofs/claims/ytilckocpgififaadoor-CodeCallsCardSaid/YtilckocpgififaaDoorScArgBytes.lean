/- A slice of bytes that came in, as the printed functions read it. -/
import Derived.Deep.Slices
import Derived.Deep.Fields
import Derived.ChangeSame
import Derived.Lib.SmallJoins
import Derived.Test.YtilckocpgififaaDoorScPNum
import Derived.WalkKit
import Derived.ProofKit
import Derived.ChangeAt
import Derived.OpenShut
namespace Go.Proofs.YtilckocpgififaaDoor.ArgBytes
open Go.ChangeShapes Go.WideShapes Go.ChangeAt Go.RowKit Go.Proofs.YtilckocpgififaaDoor.G Go.Proofs.YtilckocpgififaaDoor.PNum Go.Proofs.YtilckocpgififaaDoorW.PrintWords
set_option linter.unusedVariables false
set_option maxRecDepth 100000
variable {H : Type} {enc : TypeId × Value → H}
theorem open_row {k : IntKind} {t e : TypeId} (ht : Tryd.prog.underlying t = some (.slice e)) (he : Tryd.prog.underlying e = some (.int k)) (hc1 : Tryd.prog.cellsOf e = 1) {W : World} {b0 : Nat} {v : Value} {d : DataW H} {p : List MemPlace}
 (hv : Value.okWide Tryd.prog W .any b0 t v) (h : DataW.Trod enc Tryd.prog W 0 (fun _=>true) true t v d p) :
 ∃ (A : Option Addr) (len cap : Nat) (l : List Int),v = .slice A len cap ∧ (Kd.C (Kd.int k) W A l.length l ∧ l.length ≤ cap) ∧ len = l.length ∧ ∀ x ∈ l,(Lit.int k x).wf = true:=by
 obtain ⟨a,len,cap,rfl⟩:=okWide_slice ht hv;obtain ⟨fuel,hf⟩:=h
 rcases open_ints ht he hc1 hf with ⟨hcs,_⟩ | ⟨x,l',c',zs,hcs,_,hl,hm,hz,_,hcell,hwz⟩
 ·simp [Value.cells] at hcs
  obtain ⟨rfl,rfl,rfl⟩:=hcs;exact ⟨none,0,0,[],rfl,⟨Kd.C_nil _ _,Nat.le_refl _⟩,rfl,fun x hx=>by cases hx⟩
 ·simp [Value.cells] at hcs
  obtain ⟨rfl,rfl,rfl⟩:=hcs;obtain ⟨l,hle,hr,hm',hw,hc⟩:=ReadsInt.ofRowC (w:=W) (k:=k) (a:=some x) (len:=len) (cap:=cap) (zs:=zs) (.inr ⟨x,rfl,hl,hm,by simpa using hz,hcell,hwz⟩);subst hle;exact ⟨some x,l.length,cap,l,rfl,⟨Kd.C_of_reads (d:=(0 : Int)) (h1:=fun _=>rfl) hr,hc⟩,rfl,hw⟩
theorem open_bytes {W : World} {b0 : Nat} {v : Value} {d : DataW H} {p : List MemPlace} (hv : Value.okWide Tryd.prog W .any b0 26 v) (h : DataW.Trod enc Tryd.prog W 0 (fun _=>true) true 26 v d p) :
 ∃ (A : Option Addr) (len cap : Nat) (l : List Int),v = .slice A len cap ∧ (Kd.C (Kd.int .u8) W A l.length l ∧ l.length ≤ cap) ∧ len = l.length ∧ IsBytes l:=by
 obtain ⟨A,len,cap,l,e1,e2,e3,e4⟩:=open_row Tryd.underlying26 Tryd.underlying5 (by kernel_rfl) hv h;refine ⟨A,len,cap,l,e1,e2,e3,fun c hc=>?_⟩;have:=e4 c hc
 simp [Lit.wf,IntKind.min,IntKind.max,IntKind.signed,IntKind.bits] at this
 omega
end Go.Proofs.YtilckocpgififaaDoor.ArgBytes
