/- What the laws of this chapter share: two digests are one; how Keyed and Sum are called from a later world. -/
import Derived.Test.YtpcokihfecbigaaDoorBKnown
import Derived.Stop.BytesEq
namespace Go.Proofs.YtpcokihfecbigaaDoor.G
open Go.RowKit Go.Proofs.YtpcokihfecbigaaDoorW.PrintWords Go.Proofs.YtpcokihfecbigaaDoorW.PrintLast Go.Proofs.YtpcokihfecbigaaDoorW.PrintMore
set_option linter.unusedVariables false
set_option linter.unusedSimpArgs false
theorem bytes_cell (L : List Int) (h : ∀ c ∈ L, 0 ≤ c ∧ c < 256) : L.map (Value.int .u8) = (L.map fun c => UInt8.ofNat c.toNat).map (fun b : UInt8 => Value.int .u8 (b.toNat : Int)) := by
  rw [List.map_map]
  refine List.map_congr_left fun c hc => ?_
  obtain ⟨h0, h1⟩ := h c hc
  have e : (UInt8.ofNat c.toNat).toNat = c.toNat := by
    rw [UInt8.toNat_ofNat']
    omega
  simp only [Function.comp, e]
  rw [Int.toNat_of_nonneg h0]
theorem eq_hash (L : List Int) (h : ∀ c ∈ L, 0 ≤ c ∧ c < 256) (hl : L.length = 32) (W : World) :
    (binOp .eql 24 (.agg (L.map (Value.int .u8)).toArray) (.agg (L.map (Value.int .u8)).toArray)).run Tryd.prog W = .ok (.bool true) W := by
  have := run_eql_bytes (P := Tryd.prog) W 24 5 32 Tryd.underlying24 Tryd.underlying5 Tryd.sizeOf5 (L.map fun c => UInt8.ofNat c.toNat) (L.map fun c => UInt8.ofNat c.toNat) (by rw [List.length_map, hl]) (by rw [List.length_map, hl])
  rw [beq_self_eq_true] at this
  have e := bytes_cell L h
  rw [e]
  exact this
/-- Keyed at one row, from a later world in which the row of one row was just laid. -/
theorem keyed_one (A B : Option Addr) (ca cb : Nat) (key p : List Int) (W : World) (hK : Kd.C (Kd.int .u8) W A key.length key) (hka : key.length ≤ ca) (hP : Kd.C (Kd.int .u8) W B p.length p) (hpb : p.length ≤ cb)
    (hk1 : key.length ≤ 10000000) (hp1 : p.length ≤ 10000000) (hkb : ∀ c ∈ key, 0 ≤ c ∧ c < 256) (hpB : ∀ c ∈ p, 0 ≤ c ∧ c < 256) (hT : Spaces W) (w : World) (g : Nat) (hb : Below W.heap.size W w) (hg : w.heap[g]? = some (.cells #[.slice B p.length cb] 22 (0, 0))) :
    Calls Tryd.prog 9 #[.slice A key.length ca, .slice (some ⟨g, 0, none⟩) 1 1] w fun e w' => e = .returned (.agg ((keyedL key p).map (Value.int .u8)).toArray) ∧ Below w.heap.size w w' := by
  have := blake_Keyed.calls A (some ⟨g, 0, none⟩) ca 1 key [p] w (Kd.C_below hK hb) hka (C_one (Kd.C_below hP hb) hpb hg) (Nat.le_refl _) hk1 (by simp) (by simpa using hp1) hkb (bytes_one hpB) (hT.below hb)
  simpa using this
theorem sum_one (B : Option Addr) (cb : Nat) (p : List Int) (W : World) (hP : Kd.C (Kd.int .u8) W B p.length p) (hpb : p.length ≤ cb)
    (hp1 : p.length ≤ 10000000) (hpB : ∀ c ∈ p, 0 ≤ c ∧ c < 256) (hT : Spaces W) (w : World) (g : Nat) (hb : Below W.heap.size W w) (hg : w.heap[g]? = some (.cells #[.slice B p.length cb] 22 (0, 0))) :
    Calls Tryd.prog 11 #[.slice (some ⟨g, 0, none⟩) 1 1] w fun e w' => e = .returned (.agg ((keyedL [] p).map (Value.int .u8)).toArray) ∧ Below w.heap.size w w' := by
  have := blake_Sum.calls (some ⟨g, 0, none⟩) 1 [p] w (C_one (Kd.C_below hP hb) hpb hg) (Nat.le_refl _) (by simp) (by simpa using hp1) (bytes_one hpB) (hT.below hb)
  simpa using this
end Go.Proofs.YtpcokihfecbigaaDoor.G
