/- The law's known digest. -/
import Derived.Test.YtpcokihfecbigaaDoorBSum
import Derived.Lib.SlBytesConst
namespace Go.Proofs.YtpcokihfecbigaaDoor.G
open Go.RowKit Go.Proofs.YtpcokihfecbigaaDoorW.PrintWords Go.Proofs.YtpcokihfecbigaaDoorW.PrintLast Go.Proofs.YtpcokihfecbigaaDoorW.PrintMore
set_option linter.unusedVariables false
set_option linter.unusedSimpArgs false
theorem C_abc {w : World} {g t : Nat} {fr : Nat × Nat} (hg : w.heap[g]? = some (.cells #[.int .u8 97, .int .u8 98, .int .u8 99] t fr)) : Kd.C (Kd.int .u8) w (some ⟨g, 0, none⟩) ([97, 98, 99] : List Int).length [97, 98, 99] :=
  ⟨rfl, by decide, fun _ => ⟨⟨g, 0, none⟩, rfl, fun j p hj => by
    refine ⟨[.int .u8 p], rfl, rfl, fun i u hu => ?_⟩
    match i, hu with
    | 0, hu =>
      obtain rfl : Value.int .u8 p = u := by simpa using hu
      show w.cell? (Addr.add ⟨g, 0, none⟩ (j * 1 + 0)) = some (.int .u8 p)
      match j, hj with
      | 0, hj => simp at hj; subst hj; exact Lib.cell_of_heap hg 0
      | 1, hj => simp at hj; subst hj; exact Lib.cell_of_heap hg 1
      | 2, hj => simp at hj; subst hj; exact Lib.cell_of_heap hg 2
      | j + 3, hj => simp at hj
    | i + 1, hu => simp at hu⟩⟩

set_option maxRecDepth 100000 in
set_option maxHeartbeats 4000000 in
theorem althinglaw2_known.calls (w : World) (hT : Spaces w) : Calls Tryd.prog 13 #[] w fun e w' => e = .returned (.bool true) ∧ Below w.heap.size w w' := by
  obtain ⟨X, hX⟩ : ∃ X, X = (keyedL [] [97, 98, 99]).map (Value.int .u8) := ⟨_, rfl⟩
  have HS : Aside0 (∀ w1 g, Below w.heap.size w w1 → Kd.C (Kd.slice 5 (Kd.int .u8)) w1 (some ⟨g, 0, none⟩) [([97, 98, 99] : List Int)].length [[97, 98, 99]] → Calls Tryd.prog 11 #[.slice (some ⟨g, 0, none⟩) 1 1] w1 fun e w' => e = .returned (.agg X.toArray) ∧ Below w1.heap.size w1 w') := ⟨fun w1 g hb hc => by
    rw [hX]
    exact blake_Sum.calls (some ⟨g, 0, none⟩) 1 [[97, 98, 99]] w1 hc (Nat.le_refl _) (by decide) (by decide) (by decide) (hT.below hb)⟩
  have HH : Aside0 (∀ w1, Calls Tryd.prog 14 #[.agg X.toArray] w1 fun e w' => e = .returned (.string { data := #[98, 100, 100, 100, 56, 49, 51, 99, 54, 51, 52, 50, 51, 57, 55, 50, 51, 49, 55, 49, 101, 102, 51, 102, 101, 101, 57, 56, 53, 55, 57, 98, 57, 52, 57, 54, 52, 101, 51, 98, 98, 49, 99, 98, 51, 101, 52, 50, 55, 50, 54, 50, 99, 56, 99, 48, 54, 56, 100, 53, 50, 51, 49, 57] }) ∧ Below w1.heap.size w1 w') := ⟨fun w1 => by
    rw [hX]
    have := blake_Hex.calls (keyedL [] [97, 98, 99]) w1 (keyedL_length _ _) (keyedL_bytes _ _)
    rw [known_hex] at this
    exact this⟩
  clear hX
  go_enter Tryd.func13, Tryd.ntmps13
  go_wp2
  rw [Lib.run_convert_bytes_const w 22 5 _ 3 3 Tryd.underlying22 Tryd.underlying5]
  simp only [Result.andThen]
  rw [Oper.upon_value]
  have hb_ : Below w.heap.size w (w.alloc (.cells #[Value.int .u8 97, Value.int .u8 98, Value.int .u8 99] 5 (Array.size #[Value.int .u8 97, Value.int .u8 98, Value.int .u8 99], Array.size #[Value.int .u8 97, Value.int .u8 98, Value.int .u8 99] + 1))) := below_alloc (Below.refl _ _) _
  have hc_ := C_abc (heap_alloc_new w (.cells #[Value.int .u8 97, Value.int .u8 98, Value.int .u8 99] 5 (Array.size #[Value.int .u8 97, Value.int .u8 98, Value.int .u8 99], Array.size #[Value.int .u8 97, Value.int .u8 98, Value.int .u8 99] + 1)))
  generalize w.alloc (.cells #[Value.int .u8 97, Value.int .u8 98, Value.int .u8 99] 5 (Array.size #[Value.int .u8 97, Value.int .u8 98, Value.int .u8 99], Array.size #[Value.int .u8 97, Value.int .u8 98, Value.int .u8 99] + 1)) = w1 at hb_ hc_ ⊢
  obtain ⟨g1, hg1⟩ : ∃ g1, g1 = w.heap.size := ⟨_, rfl⟩
  have HC1 := Aside0.mk hc_
  have B1 := Aside0.mk hb_
  rw [← hg1] at HC1 ⊢
  clear hb_ hc_ hg1
  go_wp2_with (first
    | ((with_reducible refine gate_dst (N := 3) rfl ?_); refine slice_event ?hg (N := 3) ?hd (cs := #[.slice (some ⟨g1, 0, none⟩) 3 3]) (t := 22) (n := 1) (c := 1) ?hr ?_; (case hd => rfl); (case hg => rfl); (case hr => first | (go_simp; done) | (go_simp; rfl)); intro g3 hg_ w3 hbox_ hb_; have HC3 := Aside0.mk (C_one (Kd.C_below HC1.out hb_) (Nat.le_refl _) hbox_); have B3 := Aside0.mk (below_step B1.out hb_); clear hg_ hbox_ hb_)
    | (go_at_call 11; with_reducible refine (HS.out w3 g3 B3.out HC3.out).mono ?_; rintro e w4 ⟨rfl, hb_⟩; have B4 := Aside0.mk (below_step B3.out hb_); clear hb_)
    | (go_at_call 14; with_reducible refine (HH.out w4).mono ?_; rintro e w5 ⟨rfl, hb_⟩; have B5 := Aside0.mk (below_step B4.out hb_); clear hb_))

  go_ret
  exact ⟨by first | rfl | simp, B5.out⟩
end Go.Proofs.YtpcokihfecbigaaDoor.G
