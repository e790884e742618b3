/- blake.Sum, and the law's known digest. -/
import Derived.Test.YtpcokihfecbigaaDoorBHex
namespace Go.Proofs.YtpcokihfecbigaaDoor.G
open Go.RowKit Go.Proofs.YtpcokihfecbigaaDoorW.PrintWords Go.Proofs.YtpcokihfecbigaaDoorW.PrintLast Go.Proofs.YtpcokihfecbigaaDoorW.PrintMore
set_option linter.unusedVariables false
set_option linter.unusedSimpArgs false

theorem Spaces.below {w w' : World} (h : Spaces w) (hb : Below w.heap.size w w') : Spaces w' := h.grown (below_grown hb (some 1)) (by decide)
theorem keyedL_bytes (key p : List Int) : ∀ c ∈ keyedL key p, 0 ≤ c ∧ c < 256 := by
  intro c hc
  unfold keyedL digestL at hc
  obtain ⟨i, _, rfl⟩ := List.mem_map.1 hc
  unfold outB
  generalize shr _ _ _ = v
  have e : IntKind.u8.wrap v = v % 256 := by simp [IntKind.wrap, IntKind.signed, IntKind.bits]
  rw [e]
  omega
/-- A row of one row. -/
theorem C_one {w : World} {A : Option Addr} {b : List Int} {c g t : Nat} (hC : Kd.C (Kd.int .u8) w A b.length b) (hc : b.length ≤ c) (hg : w.heap[g]? = some (.cells #[.slice A b.length c] t (0, 0))) : Kd.C (Kd.slice 5 (Kd.int .u8)) w (some ⟨g, 0, none⟩) [b].length [b] :=
  ⟨rfl, by simp, fun _ => ⟨⟨g, 0, none⟩, rfl, fun j p hj => by
    match j, hj with
    | 0, hj =>
      obtain rfl : b = p := by simpa using hj
      refine ⟨[.slice A b.length c], rfl, ⟨A, c, rfl, hc, hC⟩, fun i u hu => ?_⟩
      match i, hu with
      | 0, hu =>
        obtain rfl : Value.slice A b.length c = u := by simpa using hu
        have := blk_cell hg 0
        simpa [Addr.add] using this
      | i + 1, hu => simp at hu
    | j + 1, hj => simp at hj⟩⟩
theorem bytes_one {b : List Int} (h : ∀ c ∈ b, 0 ≤ c ∧ c < 256) : ∀ c ∈ [b].flatten, 0 ≤ c ∧ c < 256 := by simpa using h

set_option maxRecDepth 100000 in
set_option maxHeartbeats 4000000 in
theorem blake_Sum.calls (B : Option Addr) (cb : Nat) (l : List (List Int)) (w : World) (hL : Kd.C (Kd.slice 5 (Kd.int .u8)) w B l.length l) (hlb : l.length ≤ cb)
    (hl1 : l.length ≤ 10000000) (hl2 : l.flatten.length ≤ 10000000) (hlB : ∀ c ∈ l.flatten, 0 ≤ c ∧ c < 256) (hT : Spaces w) :
    Calls Tryd.prog 11 #[.slice B l.length cb] w fun e w' => e = .returned (.agg ((keyedL [] l.flatten).map (Value.int .u8)).toArray) ∧ Below w.heap.size w w' := by
  obtain ⟨Z, hZ⟩ : ∃ Z, Z = zero32.map (Value.int .u8) := ⟨_, rfl⟩
  have hZl : Z.length = 32 := by rw [hZ]; rfl
  have hal : ∀ w, (zeroValue 24).run Tryd.prog w = .ok (.agg Z.toArray) w := fun w => by rw [hZ]; exact zero_run info_a32 w
  obtain ⟨X, hX⟩ : ∃ X, X = (keyedL [] l.flatten).map (Value.int .u8) := ⟨_, rfl⟩
  have hXl : X.length = 32 := by rw [hX, List.length_map, keyedL_length]
  have hXo : ∀ v ∈ X, v.oneCell' = true := by rw [hX]; exact one_of_map _
  have HK : Aside0 (∀ w1, Below w.heap.size w w1 → Calls Tryd.prog 9 #[.slice none 0 0, .slice B l.length cb] w1 fun e w' => e = .returned (.agg X.toArray) ∧ Below w1.heap.size w1 w') := ⟨fun w1 hb => by
    rw [hX]
    exact blake_Keyed.calls none B 0 cb [] l w1 (Kd.C_nil _ _) (Nat.le_refl _) (Kd.C_below hL hb) hlb (by decide) hl1 hl2 (fun c hc => by cases hc) hlB (hT.below hb)⟩
  rw [← hX]
  have HZl := Aside0.mk hZl
  have HXl := Aside0.mk hXl
  have HXo := Aside0.mk hXo
  clear hX hZ hZl hXl hXo hL hlB
  go_enter Tryd.func11, Tryd.ntmps11
  go_upto_region 1 with ((with_reducible refine gate_dst (N := 2) rfl ?_); refine box_event ?hg (N := 2) ?hd (cs := Z.toArray) (t := 24) ?hr ?_; (case hd => rfl); (case hg => rfl); (case hr => first | (simp [execOp, Instr.alloc, hal, newVar, newRow, go_sem]; done) | (simp [execOp, Instr.alloc, hal, newVar, newRow, go_sem]; rfl)); intro g2 hg_ w2 hbox_ hb_; have G2 := Aside0.mk hg_; have BZ2 := Aside0.mk (there_box hbox_); have HB2 := Aside0.mk hb_; have LT2 := Aside0.mk (blk_lt hbox_); clear hg_ hbox_ hb_)
  go_wp2_with (first
    | (go_at_call 9; with_reducible refine (HK.out w2 HB2.out).mono ?_; rintro e w3 ⟨rfl, hb_⟩; have B3 := Aside0.mk hb_; have BZ3 := Aside0.mk (there_of_below BZ2.out hb_ LT2.out); clear hb_)
    | ((with_reducible refine gate_store (t := 24) (p := 2) rfl ?_); refine wpList_store_mid rfl 24 _ _ rfl g2 0 X.toArray rfl rfl (by rw [List.size_toArray, HXl.out, ← HZl.out]; exact BZ3.out) (by rw [List.size_toArray, HXl.out]; exact size_of info_a32) (all_oneCell_toArray HXo.out) ?_))
  have BR := World.rangeAt_setCells_same w3 g2 0 X (by rw [HXl.out, ← HZl.out]; exact BZ3.out)
  have hres := run_loadVar_mid (P := Tryd.prog) (w3.setCells g2 0 X) g2 0 24 X _ BR Tryd.underlying24 rfl (by rw [HXl.out]; exact size_of info_a32)
  refine bodyPost_ret (v := .agg X.toArray) (results_cell rfl _ rfl hres) rfl ?_
  exact ⟨rfl, below_setCells g2 (by have := G2.out; omega) X 0 w3 (below_step HB2.out B3.out)⟩

def knownB : List UInt8 := [98, 100, 100, 100, 56, 49, 51, 99, 54, 51, 52, 50, 51, 57, 55, 50, 51, 49, 55, 49, 101, 102, 51, 102, 101, 101, 57, 56, 53, 55, 57, 98, 57, 52, 57, 54, 52, 101, 51, 98, 98, 49, 99, 98, 51, 101, 52, 50, 55, 50, 54, 50, 99, 56, 99, 48, 54, 56, 100, 53, 50, 51, 49, 57]
theorem known_hex : hexB (keyedL [] [97, 98, 99]) = knownB := by decide +kernel
end Go.Proofs.YtpcokihfecbigaaDoor.G
