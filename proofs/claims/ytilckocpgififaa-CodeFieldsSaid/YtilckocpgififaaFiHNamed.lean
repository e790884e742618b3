import Derived.Test.YtilckocpgififaaFiHExt
import Derived.Laws.Tables
/- code.named: an extrinsic without what its kind does not name. -/
namespace Go.Proofs.Ytilckocpgififaa.G
open Go.Extern.Stop (cell)
open Go.RowKit Go.Proofs.YtilckocpgififaaW.PrintWords Go.Proofs.YtilckocpgififaaW.PrintLast Go.Proofs.YtilckocpgififaaW.PrintMore
set_option linter.unusedVariables false
set_option linter.unusedSimpArgs false

def zSum : List UInt8 := List.replicate 32 0
def z0 : S25 := ⟨0, 0, 0, []⟩
/-- Of no kind but for who it is by. -/
def ext0 (k who : Int) : Ext := ⟨k, who, 0, 0, 0, 0, 0, zSum, 0, false, 0, 0, 0, 0, z0⟩
def namedX (x : Ext) : Ext :=
  if x.kind = 1 then { ext0 x.kind x.who with dest := x.dest, amt := x.amt }
  else if x.kind = 2 then { ext0 x.kind x.who with call := x.call }
  else if x.kind = 3 then { ext0 x.kind x.who with sum := x.sum }
  else if x.kind = 4 then { ext0 x.kind x.who with track := x.track, sum := x.sum, amt := x.amt }
  else if x.kind = 5 ∨ x.kind = 6 ∨ x.kind = 8 then { ext0 x.kind x.who with rfd := x.rfd }
  else if x.kind = 7 then { ext0 x.kind x.who with rfd := x.rfd, vkind := x.vkind, vaye := x.vaye, vlevel := x.vlevel, va := x.va, vn := x.vn, vs := x.vs }
  else if x.kind = 9 then { ext0 x.kind x.who with track := x.track, dest := x.dest, level := x.level, amt := x.amt }
  else if x.kind = 10 ∨ x.kind = 11 then { ext0 x.kind x.who with track := x.track }
  else ext0 x.kind x.who

theorem built_ext (k who : Int) : Try.prog.built 33 [(0, .int .i64 k), (1, .int .i64 who)] = some ((ext0 k who).cells none 0).toArray := by kernel_rfl
theorem info_ext : (Try.prog.info? 33).map (fun i => (i.zero, i.size)) = some (some (.agg ((ext0 0 0).cells none 0).toArray), 49) := by kernel_rfl
theorem info_ext' : (Try.prog.info? 33).map (·.size) = some 49 := by kernel_rfl

theorem results_cell {P : Program} {fn : Func} {t : Tmp} {ty : TypeId} (h : fn.results = #[.cell t ty]) (tmps : Array Value) {w : World} {g : Nat} {v : Value} (hp : tmps.getD t undef = .pointer (some ⟨g, 0, none⟩)) (hv : (loadVar ty ⟨g, 0, none⟩).run P w = .ok v w) : (results fn tmps).run P w = .ok v w := by
  have hp' : tmps[t]?.getD undef = .pointer (some ⟨g, 0, none⟩) := by rw [← hp]; simp
  simp [results, h, hp', asAddr, hv]
theorem below_setCells {B : Nat} {w0 : World} (g : Nat) (hg : B ≤ g) : ∀ (L : List Value) (o : Nat) (w : World), Below B w0 w → Below B w0 (w.setCells g o L)
  | [], _, _, h => h
  | v :: L, o, w, h => below_setCells g hg L (o + 1) _ (h.setCell (p := ⟨g, o, none⟩) hg v)
theorem there_box {w : World} {g t : Nat} {L : List Value} (h : w.heap[g]? = some (.cells L.toArray t (0, 0))) : w.there g 0 L.length := fun j hj => by
  constructor
  · rw [Nat.zero_add, blk_cell h j]; simp [hj]
  · rw [Nat.zero_add]; exact blk_frozen h j
theorem there_setCell {w : World} {g o n : Nat} (h : w.there g o n) (b i : Nat) (v : Value) : (w.setCell ⟨b, i, none⟩ v).there g o n := World.there_setCells h b i [v]
theorem set_range {w : World} {g : Nat} {L : List Value} (h : w.rangeAt g 0 L) (ht : w.there g 0 L.length) (i : Nat) (hi : i < L.length) (v : Value) : (w.setCell ⟨g, i, none⟩ v).rangeAt g 0 (L.set i v) := fun j u hj => by
  rw [Nat.zero_add]
  by_cases e : i = j
  · subst e
    have := (ht i hi).1
    rw [Nat.zero_add] at this
    rw [List.getElem?_set_self hi] at hj
    cases hj
    obtain ⟨u0, hu0⟩ := Option.isSome_iff_exists.1 this
    exact World.cell?_setCell_same w _ _ hu0
  · rw [List.getElem?_set_ne e] at hj
    rw [World.cell?_setCell_other w _ _ _ (fun q => e (by cases q; rfl))]
    have := h j u hj
    rwa [Nat.zero_add] at this
theorem far_range {w : World} {g g' : Nat} {L : List Value} (h : w.rangeAt g' 0 L) (hne : g' ≠ g) (i : Nat) (v : Value) : (w.setCell ⟨g, i, none⟩ v).rangeAt g' 0 L := fun j u hj => by
  rw [World.cell?_setCell_other w _ _ _ (fun q => hne (by cases q; rfl))]
  exact h j u hj

theorem zero_ext (w : World) : (zeroValue 33).run Try.prog w = .ok (.agg ((ext0 0 0).cells none 0).toArray) w := by
  have h := info_ext
  obtain ⟨Z, hZ⟩ : ∃ Z, Z = (ext0 0 0).cells none 0 := ⟨_, rfl⟩
  rw [← hZ] at h ⊢
  cases hi : Try.prog.info? 33 with
  | none => rw [hi] at h; cases h
  | some i => rw [hi] at h; simp at h; simp [zeroValue, typeInfo, hi, h.1, go_sem]
end Go.Proofs.Ytilckocpgififaa.G
