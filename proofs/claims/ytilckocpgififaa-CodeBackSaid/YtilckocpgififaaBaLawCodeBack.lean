/- CodeBack: what may be is read as it was. For every call, every extrinsic. -/
import Derived.Test.YtilckocpgififaaBaFrame
import Derived.Test.YtilckocpgififaaBaHKnown
import Derived.Test.YtilckocpgififaaBaArgCall
import Derived.Test.YtilckocpgififaaBaHDecExt
import Derived.Test.YtilckocpgififaaBaHRSameExt
import Derived.Test.YtilckocpgififaaBaGx7
namespace Go.Proofs.Ytilckocpgififaa.LawCodeBack
set_option linter.unusedSimpArgs false
set_option linter.unusedVariables false
open Go.Extern.Stop (cell)
open Go.ChangeShapes Go.WideShapes Go.ChangeAt Go.RowKit Go.Proofs.Ytilckocpgififaa.G Go.Proofs.Ytilckocpgififaa.PNum Go.Proofs.Ytilckocpgififaa.Frame Go.Proofs.YtilckocpgififaaW.PrintWords Go.Proofs.YtilckocpgififaaW.PrintLast Go.Proofs.YtilckocpgififaaW.PrintMore

def callL (c : S25) (A : Option Addr) (n : Nat) : List Value := [.int .i64 c.f0, .int .i64 c.f1, .int .i64 c.f2, .slice A c.f3.length n]
theorem sameX_self (x : Ext) : sameX x x = true := by simp [sameX]
set_option maxRecDepth 100000 in
set_option maxHeartbeats 32000000 in
theorem walk (y : S25) (A2 : Option Addr) (c2 : Nat) (x : Ext) (A : Option Addr) (c : Nat) (W : World) (hy : Kd.C k25 W A2 y.f3.length y.f3) (hyc : y.f3.length ≤ c2) (hx : x.sum.length = 32) (hC : Kd.C k25 W A x.call.f3.length x.call.f3) (hc : x.call.f3.length ≤ c) :
    Calls Try.prog 8 #[.agg (callL y A2 c2).toArray, .agg (x.cells A c).toArray] W fun e w' => e = .returned (.bool true) ∧ Below W.heap.size W w' := by
  obtain ⟨F, hF⟩ := fits_kids W x.call A hC
  obtain ⟨k, r, hs⟩ := size_some F x.call hF
  obtain ⟨G, hG⟩ := fits_kids W y A2 hy
  obtain ⟨q, r2, hs2⟩ := size_some G y hG
  obtain ⟨L, hL⟩ : ∃ L, L = x.cells A c := ⟨_, rfl⟩
  obtain ⟨LC, hLC⟩ : ∃ LC, LC = callL y A2 c2 := ⟨_, rfl⟩
  obtain ⟨LD, hLD⟩ : ∃ LD, LD = callL x.call A c := ⟨_, rfl⟩
  obtain ⟨e0, he0⟩ : ∃ b, isExtP x = b := ⟨_, rfl⟩
  obtain ⟨e1, he1⟩ : ∃ b, okT 3 y = b := ⟨_, rfl⟩
  have HRX : Aside0 (∀ w, Below W.heap.size W w → Calls Try.prog 13 #[.agg L.toArray] w fun e w' => e = .returned (.bool e0) ∧ Below w.heap.size w w') := ⟨fun w hb => by rw [hL, ← he0]; exact althingref7_IsExt.all x A c w hx (Kd.C_below hC hb) hc⟩
  have HRC : Aside0 (∀ w, Below W.heap.size W w → Calls Try.prog 17 #[.agg LC.toArray] w fun e w' => e = .returned (.bool e1) ∧ Below w.heap.size w w') := ⟨fun w hb => by rw [hLC, ← he1]; exact althingref7_IsCall.calls 40 _ _ _ A2 c2 _ _ w (Kd.C_below hy hb) hyc (risCall_tells y 40 (by decide))⟩
  have HSA : Aside0 (∀ w, Below W.heap.size W w → Calls Try.prog 12 #[.agg LC.toArray] w fun e w' => e = .returned (.int .i64 r2) ∧ Below w.heap.size w w') := ⟨fun w hb => by rw [hLC]; exact althinglaw7_size.calls q _ _ _ A2 c2 _ _ w (Kd.C_below hy hb) hyc hs2⟩
  have HSB : Aside0 (∀ w, Below W.heap.size W w → Calls Try.prog 12 #[.agg LD.toArray] w fun e w' => e = .returned (.int .i64 r) ∧ Below w.heap.size w w') := ⟨fun w hb => by rw [hLD]; exact althinglaw7_size.calls k _ _ _ A c _ _ w (Kd.C_below hC hb) hc hs⟩
  have HEN : Aside0 (∀ w, Below W.heap.size W w → Calls Try.prog 19 #[.agg L.toArray] w fun e w' => ∃ v0 : Value, e = .returned (.tuple #[v0, .int .i64 (errE e0)]) ∧ Kd.R (Kd.int .u8) 5 w' w.heap.size (fun _ => True) v0 (bytesE x) ∧ Below w.heap.size w w') := ⟨fun w hb => by rw [hL, ← he0]; exact encodeExt_calls x A c w hx (Kd.C_below hC hb) hc⟩
  have HEC : Aside0 (e1 = true → ∀ w, Below W.heap.size W w → Calls Try.prog 16 #[.agg LC.toArray] w fun e w' => ∃ v0 : Value, e = .returned (.tuple #[v0, .int .i64 0]) ∧ Kd.R (Kd.int .u8) 5 w' w.heap.size (fun _ => True) v0 (encC 3 y) ∧ Below w.heap.size w w') := ⟨fun h1 w hb => by
    rw [hLC]
    exact code_EncodeCall.calls 50 _ _ _ A2 c2 _ _ _ w (Kd.C_below hy hb) hyc (by rw [encode_tells y 50 (by decide), he1, h1, if_pos rfl])⟩
  have HIL : Aside0 ((Try.prog.info? 33).map (·.size) = some L.length) := ⟨by rw [hL, Ext.cells_length _ _ _ hx]; exact info_ext'⟩
  have HIC : Aside0 ((Try.prog.info? 25).map (·.size) = some LC.length) := ⟨by rw [hLC]; exact info_call⟩
  have HID : Aside0 ((Try.prog.info? 25).map (·.size) = some LD.length) := ⟨by rw [hLD]; exact info_call⟩
  have HLD : Aside0 (∀ {w' : World} {g : Nat}, w'.rangeAt g 0 L → w'.rangeAt g 45 LD) := ⟨fun {w' g} h => by
    rw [hL] at h
    obtain ⟨a0, a1, a2, a3⟩ := x.at_call A c hx h
    rw [hLD]
    intro j v hj
    match j, hj with
    | 0, hj => rw [← Option.some.inj (show some (Value.int .i64 x.call.f0) = some v from hj)]; exact a0
    | 1, hj => rw [← Option.some.inj (show some (Value.int .i64 x.call.f1) = some v from hj)]; exact a1
    | 2, hj => rw [← Option.some.inj (show some (Value.int .i64 x.call.f2) = some v from hj)]; exact a2
    | 3, hj => rw [← Option.some.inj (show some (Value.slice A x.call.f3.length c) = some v from hj)]; exact a3⟩
  rw [← hL, ← hLC]
  have HC := Aside0.mk hC
  have Hc := Aside0.mk hc
  have HY := Aside0.mk hy
  have Hyc := Aside0.mk hyc
  have HF := Aside0.mk hF
  have HG := Aside0.mk hG
  have HE0 := Aside0.mk he0
  have HE1 := Aside0.mk he1
  have Hx := Aside0.mk hx
  have HL := Aside0.mk hL
  have HLC := Aside0.mk hLC
  clear hL hLC hLD hC hc hy hyc hx hs hs2 hF hG he0 he1
  by_cases h2 : r2 ≥ 300
  · have d1 : decide (r2 ≥ 300) = true := decide_eq_true h2
    go_enter Try.func8, Try.ntmps8
    go_upto_region 1 with (first
      | ((with_reducible refine gate_dst (N := 2) rfl ?_); refine box_event ?hg (N := 2) ?hd (cs := LC.toArray) (t := 25) ?hr ?_; (case hd => rfl); (case hg => rfl); (case hr => first | (go_simp; done) | (go_simp; rfl)); intro g2 hg1 w0 hbox1 hb1; have hR2 := rangeAt_box hbox1; have hZ2 := blk_lt hbox1; have hT0 := hb1; clear hg1 hbox1 hb1)
      | ((with_reducible refine gate_dst (N := 3) rfl ?_); refine box_event ?hg (N := 3) ?hd (cs := L.toArray) (t := 33) ?hr ?_; (case hd => rfl); (case hg => rfl); (case hr => first | (go_simp; done) | (go_simp; rfl)); intro g3 hg1 w1 hbox1 hb1; have hR3 := rangeAt_box hbox1; have hZ3 := blk_lt hbox1; replace hR2 := rangeAt_below hR2 hb1 hZ2; replace hZ2 := Nat.lt_of_lt_of_le hZ2 hb1.size; replace hT0 := below_step hT0 hb1; clear hg1 hbox1 hb1))
    go_wp2_with (first
      | (go_at_call 12; first | ((with_reducible refine (HSA.out _ hT0).mono ?_); rintro e w2 ⟨rfl, hB5⟩; replace hR3 := rangeAt_below hR3 hB5 hZ3; replace hT0 := below_step hT0 hB5; replace hZ3 := Nat.lt_of_lt_of_le hZ3 hB5.size; replace hR2 := rangeAt_below hR2 hB5 hZ2; replace hZ2 := Nat.lt_of_lt_of_le hZ2 hB5.size; clear hB5) | ((with_reducible refine (HSB.out _ hT0).mono ?_); rintro e w3 ⟨rfl, hB5⟩; replace hR3 := rangeAt_below hR3 hB5 hZ3; replace hT0 := below_step hT0 hB5; replace hZ3 := Nat.lt_of_lt_of_le hZ3 hB5.size; replace hR2 := rangeAt_below hR2 hB5 hZ2; replace hZ2 := Nat.lt_of_lt_of_le hZ2 hB5.size; clear hB5))
      | ((with_reducible refine gate_dst (N := 13) rfl ?_); refine wpList_load_mid rfl 25 _ rfl g2 0 rfl LC _ hR2 Try.underlying25 rfl HIC.out ?_)
      | ((with_reducible refine gate_dst (N := 18) rfl ?_); (try (refine gate_guard (by rfl) ?_; dsimp only)); refine wpList_load_mid rfl 25 _ rfl g3 45 rfl LD _ (HLD.out hR3) Try.underlying25 rfl HID.out ?_)
      | ((with_reducible refine gate_dst (N := 23) rfl ?_); (try (refine gate_guard (by rfl) ?_; dsimp only)); refine wpList_load_mid rfl 25 _ rfl g2 0 rfl LC _ hR2 Try.underlying25 rfl HIC.out ?_)
      | ((with_reducible refine gate_dst (N := 28) rfl ?_); (try (refine gate_guard (by rfl) ?_; dsimp only)); refine wpList_load_mid rfl 33 _ rfl g3 0 rfl L _ hR3 Try.underlying33 rfl HIL.out ?_)
      | (go_at_call 17; go_loud ((with_reducible refine (HRC.out _ hT0).mono ?_); rintro e w4 ⟨rfl, hB5⟩; replace hR3 := rangeAt_below hR3 hB5 hZ3; replace hT0 := below_step hT0 hB5; replace hZ3 := Nat.lt_of_lt_of_le hZ3 hB5.size; replace hR2 := rangeAt_below hR2 hB5 hZ2; replace hZ2 := Nat.lt_of_lt_of_le hZ2 hB5.size; clear hB5))
      | (go_at_call 13; go_loud ((with_reducible refine (HRX.out _ hT0).mono ?_); rintro e w5 ⟨rfl, hB5⟩; replace hR3 := rangeAt_below hR3 hB5 hZ3; replace hT0 := below_step hT0 hB5; replace hZ3 := Nat.lt_of_lt_of_le hZ3 hB5.size; replace hR2 := rangeAt_below hR2 hB5 hZ2; replace hZ2 := Nat.lt_of_lt_of_le hZ2 hB5.size; clear hB5)))
    all_goals go_ret
    all_goals exact ⟨rfl, hT0⟩
  have d1 : decide (r2 ≥ 300) = false := decide_eq_false h2
  by_cases h1 : r ≥ 300
  · have d2 : decide (r ≥ 300) = true := decide_eq_true h1
    go_enter Try.func8, Try.ntmps8
    go_upto_region 1 with (first
      | ((with_reducible refine gate_dst (N := 2) rfl ?_); refine box_event ?hg (N := 2) ?hd (cs := LC.toArray) (t := 25) ?hr ?_; (case hd => rfl); (case hg => rfl); (case hr => first | (go_simp; done) | (go_simp; rfl)); intro g2 hg1 w0 hbox1 hb1; have hR2 := rangeAt_box hbox1; have hZ2 := blk_lt hbox1; have hT0 := hb1; clear hg1 hbox1 hb1)
      | ((with_reducible refine gate_dst (N := 3) rfl ?_); refine box_event ?hg (N := 3) ?hd (cs := L.toArray) (t := 33) ?hr ?_; (case hd => rfl); (case hg => rfl); (case hr => first | (go_simp; done) | (go_simp; rfl)); intro g3 hg1 w1 hbox1 hb1; have hR3 := rangeAt_box hbox1; have hZ3 := blk_lt hbox1; replace hR2 := rangeAt_below hR2 hb1 hZ2; replace hZ2 := Nat.lt_of_lt_of_le hZ2 hb1.size; replace hT0 := below_step hT0 hb1; clear hg1 hbox1 hb1))
    go_wp2_with (first
      | (go_at_call 12; first | ((with_reducible refine (HSA.out _ hT0).mono ?_); rintro e w2 ⟨rfl, hB5⟩; replace hR3 := rangeAt_below hR3 hB5 hZ3; replace hT0 := below_step hT0 hB5; replace hZ3 := Nat.lt_of_lt_of_le hZ3 hB5.size; replace hR2 := rangeAt_below hR2 hB5 hZ2; replace hZ2 := Nat.lt_of_lt_of_le hZ2 hB5.size; clear hB5) | ((with_reducible refine (HSB.out _ hT0).mono ?_); rintro e w3 ⟨rfl, hB5⟩; replace hR3 := rangeAt_below hR3 hB5 hZ3; replace hT0 := below_step hT0 hB5; replace hZ3 := Nat.lt_of_lt_of_le hZ3 hB5.size; replace hR2 := rangeAt_below hR2 hB5 hZ2; replace hZ2 := Nat.lt_of_lt_of_le hZ2 hB5.size; clear hB5))
      | ((with_reducible refine gate_dst (N := 13) rfl ?_); refine wpList_load_mid rfl 25 _ rfl g2 0 rfl LC _ hR2 Try.underlying25 rfl HIC.out ?_)
      | ((with_reducible refine gate_dst (N := 18) rfl ?_); (try (refine gate_guard (by rfl) ?_; dsimp only)); refine wpList_load_mid rfl 25 _ rfl g3 45 rfl LD _ (HLD.out hR3) Try.underlying25 rfl HID.out ?_)
      | ((with_reducible refine gate_dst (N := 23) rfl ?_); (try (refine gate_guard (by rfl) ?_; dsimp only)); refine wpList_load_mid rfl 25 _ rfl g2 0 rfl LC _ hR2 Try.underlying25 rfl HIC.out ?_)
      | ((with_reducible refine gate_dst (N := 28) rfl ?_); (try (refine gate_guard (by rfl) ?_; dsimp only)); refine wpList_load_mid rfl 33 _ rfl g3 0 rfl L _ hR3 Try.underlying33 rfl HIL.out ?_)
      | (go_at_call 17; go_loud ((with_reducible refine (HRC.out _ hT0).mono ?_); rintro e w4 ⟨rfl, hB5⟩; replace hR3 := rangeAt_below hR3 hB5 hZ3; replace hT0 := below_step hT0 hB5; replace hZ3 := Nat.lt_of_lt_of_le hZ3 hB5.size; replace hR2 := rangeAt_below hR2 hB5 hZ2; replace hZ2 := Nat.lt_of_lt_of_le hZ2 hB5.size; clear hB5))
      | (go_at_call 13; go_loud ((with_reducible refine (HRX.out _ hT0).mono ?_); rintro e w5 ⟨rfl, hB5⟩; replace hR3 := rangeAt_below hR3 hB5 hZ3; replace hT0 := below_step hT0 hB5; replace hZ3 := Nat.lt_of_lt_of_le hZ3 hB5.size; replace hR2 := rangeAt_below hR2 hB5 hZ2; replace hZ2 := Nat.lt_of_lt_of_le hZ2 hB5.size; clear hB5)))
    all_goals go_ret
    all_goals exact ⟨rfl, hT0⟩
  have d2 : decide (r ≥ 300) = false := decide_eq_false h1
  cases e1 with
  | false =>
    go_enter Try.func8, Try.ntmps8
    go_upto_region 1 with (first
      | ((with_reducible refine gate_dst (N := 2) rfl ?_); refine box_event ?hg (N := 2) ?hd (cs := LC.toArray) (t := 25) ?hr ?_; (case hd => rfl); (case hg => rfl); (case hr => first | (go_simp; done) | (go_simp; rfl)); intro g2 hg1 w0 hbox1 hb1; have hR2 := rangeAt_box hbox1; have hZ2 := blk_lt hbox1; have hT0 := hb1; clear hg1 hbox1 hb1)
      | ((with_reducible refine gate_dst (N := 3) rfl ?_); refine box_event ?hg (N := 3) ?hd (cs := L.toArray) (t := 33) ?hr ?_; (case hd => rfl); (case hg => rfl); (case hr => first | (go_simp; done) | (go_simp; rfl)); intro g3 hg1 w1 hbox1 hb1; have hR3 := rangeAt_box hbox1; have hZ3 := blk_lt hbox1; replace hR2 := rangeAt_below hR2 hb1 hZ2; replace hZ2 := Nat.lt_of_lt_of_le hZ2 hb1.size; replace hT0 := below_step hT0 hb1; clear hg1 hbox1 hb1))
    go_wp2_with (first
      | (go_at_call 12; first | ((with_reducible refine (HSA.out _ hT0).mono ?_); rintro e w2 ⟨rfl, hB5⟩; replace hR3 := rangeAt_below hR3 hB5 hZ3; replace hT0 := below_step hT0 hB5; replace hZ3 := Nat.lt_of_lt_of_le hZ3 hB5.size; replace hR2 := rangeAt_below hR2 hB5 hZ2; replace hZ2 := Nat.lt_of_lt_of_le hZ2 hB5.size; clear hB5) | ((with_reducible refine (HSB.out _ hT0).mono ?_); rintro e w3 ⟨rfl, hB5⟩; replace hR3 := rangeAt_below hR3 hB5 hZ3; replace hT0 := below_step hT0 hB5; replace hZ3 := Nat.lt_of_lt_of_le hZ3 hB5.size; replace hR2 := rangeAt_below hR2 hB5 hZ2; replace hZ2 := Nat.lt_of_lt_of_le hZ2 hB5.size; clear hB5))
      | ((with_reducible refine gate_dst (N := 13) rfl ?_); refine wpList_load_mid rfl 25 _ rfl g2 0 rfl LC _ hR2 Try.underlying25 rfl HIC.out ?_)
      | ((with_reducible refine gate_dst (N := 18) rfl ?_); (try (refine gate_guard (by rfl) ?_; dsimp only)); refine wpList_load_mid rfl 25 _ rfl g3 45 rfl LD _ (HLD.out hR3) Try.underlying25 rfl HID.out ?_)
      | ((with_reducible refine gate_dst (N := 23) rfl ?_); (try (refine gate_guard (by rfl) ?_; dsimp only)); refine wpList_load_mid rfl 25 _ rfl g2 0 rfl LC _ hR2 Try.underlying25 rfl HIC.out ?_)
      | ((with_reducible refine gate_dst (N := 28) rfl ?_); (try (refine gate_guard (by rfl) ?_; dsimp only)); refine wpList_load_mid rfl 33 _ rfl g3 0 rfl L _ hR3 Try.underlying33 rfl HIL.out ?_)
      | (go_at_call 17; go_loud ((with_reducible refine (HRC.out _ hT0).mono ?_); rintro e w4 ⟨rfl, hB5⟩; replace hR3 := rangeAt_below hR3 hB5 hZ3; replace hT0 := below_step hT0 hB5; replace hZ3 := Nat.lt_of_lt_of_le hZ3 hB5.size; replace hR2 := rangeAt_below hR2 hB5 hZ2; replace hZ2 := Nat.lt_of_lt_of_le hZ2 hB5.size; clear hB5))
      | (go_at_call 13; go_loud ((with_reducible refine (HRX.out _ hT0).mono ?_); rintro e w5 ⟨rfl, hB5⟩; replace hR3 := rangeAt_below hR3 hB5 hZ3; replace hT0 := below_step hT0 hB5; replace hZ3 := Nat.lt_of_lt_of_le hZ3 hB5.size; replace hR2 := rangeAt_below hR2 hB5 hZ2; replace hZ2 := Nat.lt_of_lt_of_le hZ2 hB5.size; clear hB5)))
    all_goals go_ret
    all_goals exact ⟨rfl, hT0⟩
  | true =>
  cases e0 with
  | false =>
    go_enter Try.func8, Try.ntmps8
    go_upto_region 1 with (first
      | ((with_reducible refine gate_dst (N := 2) rfl ?_); refine box_event ?hg (N := 2) ?hd (cs := LC.toArray) (t := 25) ?hr ?_; (case hd => rfl); (case hg => rfl); (case hr => first | (go_simp; done) | (go_simp; rfl)); intro g2 hg1 w0 hbox1 hb1; have hR2 := rangeAt_box hbox1; have hZ2 := blk_lt hbox1; have hT0 := hb1; clear hg1 hbox1 hb1)
      | ((with_reducible refine gate_dst (N := 3) rfl ?_); refine box_event ?hg (N := 3) ?hd (cs := L.toArray) (t := 33) ?hr ?_; (case hd => rfl); (case hg => rfl); (case hr => first | (go_simp; done) | (go_simp; rfl)); intro g3 hg1 w1 hbox1 hb1; have hR3 := rangeAt_box hbox1; have hZ3 := blk_lt hbox1; replace hR2 := rangeAt_below hR2 hb1 hZ2; replace hZ2 := Nat.lt_of_lt_of_le hZ2 hb1.size; replace hT0 := below_step hT0 hb1; clear hg1 hbox1 hb1))
    go_wp2_with (first
      | (go_at_call 12; first | ((with_reducible refine (HSA.out _ hT0).mono ?_); rintro e w2 ⟨rfl, hB5⟩; replace hR3 := rangeAt_below hR3 hB5 hZ3; replace hT0 := below_step hT0 hB5; replace hZ3 := Nat.lt_of_lt_of_le hZ3 hB5.size; replace hR2 := rangeAt_below hR2 hB5 hZ2; replace hZ2 := Nat.lt_of_lt_of_le hZ2 hB5.size; clear hB5) | ((with_reducible refine (HSB.out _ hT0).mono ?_); rintro e w3 ⟨rfl, hB5⟩; replace hR3 := rangeAt_below hR3 hB5 hZ3; replace hT0 := below_step hT0 hB5; replace hZ3 := Nat.lt_of_lt_of_le hZ3 hB5.size; replace hR2 := rangeAt_below hR2 hB5 hZ2; replace hZ2 := Nat.lt_of_lt_of_le hZ2 hB5.size; clear hB5))
      | ((with_reducible refine gate_dst (N := 13) rfl ?_); refine wpList_load_mid rfl 25 _ rfl g2 0 rfl LC _ hR2 Try.underlying25 rfl HIC.out ?_)
      | ((with_reducible refine gate_dst (N := 18) rfl ?_); (try (refine gate_guard (by rfl) ?_; dsimp only)); refine wpList_load_mid rfl 25 _ rfl g3 45 rfl LD _ (HLD.out hR3) Try.underlying25 rfl HID.out ?_)
      | ((with_reducible refine gate_dst (N := 23) rfl ?_); (try (refine gate_guard (by rfl) ?_; dsimp only)); refine wpList_load_mid rfl 25 _ rfl g2 0 rfl LC _ hR2 Try.underlying25 rfl HIC.out ?_)
      | ((with_reducible refine gate_dst (N := 28) rfl ?_); (try (refine gate_guard (by rfl) ?_; dsimp only)); refine wpList_load_mid rfl 33 _ rfl g3 0 rfl L _ hR3 Try.underlying33 rfl HIL.out ?_)
      | (go_at_call 17; go_loud ((with_reducible refine (HRC.out _ hT0).mono ?_); rintro e w4 ⟨rfl, hB5⟩; replace hR3 := rangeAt_below hR3 hB5 hZ3; replace hT0 := below_step hT0 hB5; replace hZ3 := Nat.lt_of_lt_of_le hZ3 hB5.size; replace hR2 := rangeAt_below hR2 hB5 hZ2; replace hZ2 := Nat.lt_of_lt_of_le hZ2 hB5.size; clear hB5))
      | (go_at_call 13; go_loud ((with_reducible refine (HRX.out _ hT0).mono ?_); rintro e w5 ⟨rfl, hB5⟩; replace hR3 := rangeAt_below hR3 hB5 hZ3; replace hT0 := below_step hT0 hB5; replace hZ3 := Nat.lt_of_lt_of_le hZ3 hB5.size; replace hR2 := rangeAt_below hR2 hB5 hZ2; replace hZ2 := Nat.lt_of_lt_of_le hZ2 hB5.size; clear hB5)))
    all_goals go_ret
    all_goals exact ⟨rfl, hT0⟩
  | true =>
  obtain ⟨b, hb⟩ : ∃ b, b = encE x := ⟨_, rfl⟩
  have hbx : bytesE x = b := by unfold bytesE; rw [HE0.out, if_pos rfl, hb]
  have hbb : IsBytes b := by rw [hb]; exact encE_bytes x
  have hdb : decE b = some x := by rw [hb]; exact decE_put HE0.out Hx.out
  have hbl : b.length < 140737488355328 := by rw [hb]; have := encE_short HE0.out Hx.out; omega
  obtain ⟨p, hp⟩ : ∃ p, p = encC 3 y := ⟨_, rfl⟩
  have hpb : IsBytes p := by rw [hp]; exact encC_bytes 3 y
  have hdp : decF p = some y := by rw [hp]; exact decF_put HE1.out
  have hpl : p.length < 140737488355328 := by rw [hp]; have := encC_most 3 y HE1.out; have := mostC_small (f := 3) (by decide); omega
  have hec := HEC.out rfl
  rw [← hp] at hec
  have HEC2 := Aside0.mk hec
  have HBX := Aside0.mk hbx
  have HBB := Aside0.mk hbb
  have HDB := Aside0.mk hdb
  have HBL := Aside0.mk hbl
  have HPB := Aside0.mk hpb
  have HDP := Aside0.mk hdp
  have HPL := Aside0.mk hpl
  clear hb hbx hbb hdb hbl hp hpb hdp hpl hec HEC
  obtain ⟨Z, hZ⟩ : ∃ Z, Z = zeroE := ⟨_, rfl⟩
  have HZl : Aside0 (Z.length = 49) := ⟨by rw [hZ]; exact zeroE_length⟩
  have HAL : Aside0 (∀ w, (zeroValue 33).run Try.prog w = .ok (.agg Z.toArray) w) := ⟨fun w => by rw [hZ]; exact zero_ext w⟩
  obtain ⟨ZC, hZC⟩ : ∃ ZC, ZC = zeroC := ⟨_, rfl⟩
  have HZCl : Aside0 (ZC.length = 4) := ⟨by rw [hZC]; rfl⟩
  have HALC : Aside0 (∀ w, (zeroValue 25).run Try.prog w = .ok (.agg ZC.toArray) w) := ⟨fun w => by rw [hZC]; exact zero_runC w⟩
  clear hZ hZC
  go_enter Try.func8, Try.ntmps8
  go_upto_region 1 with (first
    | ((with_reducible refine gate_dst (N := 2) rfl ?_); refine box_event ?hg (N := 2) ?hd (cs := LC.toArray) (t := 25) ?hr ?_; (case hd => rfl); (case hg => rfl); (case hr => first | (go_simp; done) | (go_simp; rfl)); intro g2 hg1 w0 hbox1 hb1; have hR2 := rangeAt_box hbox1; have hZ2 := blk_lt hbox1; have hT0 := hb1; clear hg1 hbox1 hb1)
    | ((with_reducible refine gate_dst (N := 3) rfl ?_); refine box_event ?hg (N := 3) ?hd (cs := L.toArray) (t := 33) ?hr ?_; (case hd => rfl); (case hg => rfl); (case hr => first | (go_simp; done) | (go_simp; rfl)); intro g3 hg1 w1 hbox1 hb1; have hR3 := rangeAt_box hbox1; have hZ3 := blk_lt hbox1; replace hR2 := rangeAt_below hR2 hb1 hZ2; replace hZ2 := Nat.lt_of_lt_of_le hZ2 hb1.size; replace hT0 := below_step hT0 hb1; clear hg1 hbox1 hb1))
  go_upto_region 4 with (first
      | (go_at_call 12; first | ((with_reducible refine (HSA.out _ hT0).mono ?_); rintro e w2 ⟨rfl, hB5⟩; replace hR3 := rangeAt_below hR3 hB5 hZ3; replace hT0 := below_step hT0 hB5; replace hZ3 := Nat.lt_of_lt_of_le hZ3 hB5.size; replace hR2 := rangeAt_below hR2 hB5 hZ2; replace hZ2 := Nat.lt_of_lt_of_le hZ2 hB5.size; clear hB5) | ((with_reducible refine (HSB.out _ hT0).mono ?_); rintro e w3 ⟨rfl, hB5⟩; replace hR3 := rangeAt_below hR3 hB5 hZ3; replace hT0 := below_step hT0 hB5; replace hZ3 := Nat.lt_of_lt_of_le hZ3 hB5.size; replace hR2 := rangeAt_below hR2 hB5 hZ2; replace hZ2 := Nat.lt_of_lt_of_le hZ2 hB5.size; clear hB5))
      | ((with_reducible refine gate_dst (N := 13) rfl ?_); refine wpList_load_mid rfl 25 _ rfl g2 0 rfl LC _ hR2 Try.underlying25 rfl HIC.out ?_)
      | ((with_reducible refine gate_dst (N := 18) rfl ?_); (try (refine gate_guard (by rfl) ?_; dsimp only)); refine wpList_load_mid rfl 25 _ rfl g3 45 rfl LD _ (HLD.out hR3) Try.underlying25 rfl HID.out ?_)
      | ((with_reducible refine gate_dst (N := 23) rfl ?_); (try (refine gate_guard (by rfl) ?_; dsimp only)); refine wpList_load_mid rfl 25 _ rfl g2 0 rfl LC _ hR2 Try.underlying25 rfl HIC.out ?_)
      | ((with_reducible refine gate_dst (N := 28) rfl ?_); (try (refine gate_guard (by rfl) ?_; dsimp only)); refine wpList_load_mid rfl 33 _ rfl g3 0 rfl L _ hR3 Try.underlying33 rfl HIL.out ?_)
      | (go_at_call 17; go_loud ((with_reducible refine (HRC.out _ hT0).mono ?_); rintro e w4 ⟨rfl, hB5⟩; replace hR3 := rangeAt_below hR3 hB5 hZ3; replace hT0 := below_step hT0 hB5; replace hZ3 := Nat.lt_of_lt_of_le hZ3 hB5.size; replace hR2 := rangeAt_below hR2 hB5 hZ2; replace hZ2 := Nat.lt_of_lt_of_le hZ2 hB5.size; clear hB5))
      | (go_at_call 13; go_loud ((with_reducible refine (HRX.out _ hT0).mono ?_); rintro e w5 ⟨rfl, hB5⟩; replace hR3 := rangeAt_below hR3 hB5 hZ3; replace hT0 := below_step hT0 hB5; replace hZ3 := Nat.lt_of_lt_of_le hZ3 hB5.size; replace hR2 := rangeAt_below hR2 hB5 hZ2; replace hZ2 := Nat.lt_of_lt_of_le hZ2 hB5.size; clear hB5))
      | ((with_reducible refine gate_dst (N := 33) rfl ?_); refine wpList_load_mid rfl 25 _ rfl g2 0 rfl LC _ hR2 Try.underlying25 rfl HIC.out ?_)
      | (go_at_call 16; go_loud ((with_reducible refine (HEC2.out _ hT0).mono ?_); rintro e w6 ⟨v6, rfl, hr_, hB5⟩; obtain ⟨A6, c6, hv_, hc_, hC_⟩ := Kd.R_reads hr_; subst hv_; have Hc6 := Aside0.mk hc_; have HC6 := Aside0.mk hC_; replace hR3 := rangeAt_below hR3 hB5 hZ3; replace hT0 := below_step hT0 hB5; replace hZ3 := Nat.lt_of_lt_of_le hZ3 hB5.size; replace hR2 := rangeAt_below hR2 hB5 hZ2; replace hZ2 := Nat.lt_of_lt_of_le hZ2 hB5.size; clear hB5; clear hr_ hc_ hC_)))
  have HR2 := Aside0.mk hR2
  have HR3 := Aside0.mk hR3
  have HZ2 := Aside0.mk hZ2
  have HZ3 := Aside0.mk hZ3
  have HT6 := Aside0.mk hT0
  clear hR2 hR3 hZ2 hZ3 hT0 d1 d2
  go_upto_region 5 with (first
    | (go_at_call 25; go_loud (have hd_ := decode_calls A6 c6 p w6 HC6.out Hc6.out HPB.out HPL.out; rw [HDP.out, Option.getD_some, show errOf (some y) = 0 from rfl] at hd_; (with_reducible refine hd_.mono ?_); clear hd_; rintro e w7 ⟨⟨L7, rfl, hl_, ho_, hM_⟩, hb_⟩; have HL7 := Aside0.mk hl_; have HL7o := Aside0.mk ho_; have HM7 := Aside0.mk hM_; have B7 := Aside0.mk hb_; clear hl_ ho_ hM_ hb_))
    | ((with_reducible refine gate_dst (N := 7) rfl ?_); refine box_event ?hg (N := 7) ?hd (cs := ZC.toArray) (t := 25) ?hr ?_; (case hd => rfl); (case hg => rfl); (case hr => first | (simp [execOp, Instr.alloc, HALC.out, newVar, newRow, go_sem]; done) | (simp [execOp, Instr.alloc, HALC.out, newVar, newRow, go_sem]; rfl)); intro g7 hg_ w8 hbox_ hb_; have h7_ : Lies w8 g7 ZC := Lies.box hbox_; have L78 := Aside0.mk h7_; have G7 := Aside0.mk hg_; have B8 := Aside0.mk hb_; clear h7_ hg_ hbox_ hb_)
    | ((with_reducible refine gate_store (t := 25) (p := 7) rfl ?_); refine wpList_store_mid rfl 25 _ _ rfl g7 0 L7.toArray rfl rfl (by rw [List.size_toArray, HL7.out, ← HZCl.out]; exact L78.out.there) (by rw [List.size_toArray, HL7.out]; exact info_call) (all_oneCell_toArray HL7o.out) ?_))
  have hz8 : g2 < w7.heap.size ∧ g3 < w7.heap.size ∧ w7.heap.size ≤ w8.heap.size ∧ w6.heap.size ≤ w7.heap.size := ⟨Nat.lt_of_lt_of_le HZ2.out B7.out.size, Nat.lt_of_lt_of_le HZ3.out B7.out.size, B8.out.size, B7.out.size⟩
  have g7lt := L78.out.lt (by rw [HZCl.out]; decide)
  have e7 := G7.out
  have k_ := kept_setCells g7 0 L7 w8
  have b_ : Below w6.heap.size w6 (w8.setCells g7 0 L7) := below_setCells' g7 (by omega) L7 0 w8 (below_step B7.out B8.out)
  have n7_ : Lies (w8.setCells g7 0 L7) g7 L7 := by have := L78.out.splice 0 L7 (by rw [HL7.out, HZCl.out]; decide); rwa [List.take_zero, List.nil_append, List.drop_of_length_le (by rw [HL7.out, HZCl.out]; decide), List.append_nil] at this
  have hM_ : k25.M (w8.setCells g7 0 L7) w6.heap.size (fun k => w6.heap.size ≤ k ∧ k < w7.heap.size) y L7 :=
    Kd.M_step (Kd.M_below (k25.M_mono (fun k h => ⟨h.2.1, h.2.2.1⟩) (k25.M_bound HM7.out)) B8.out) (fun k ho hl => k_.block k hl (by show ¬ k = g7; omega))
  have hZ7 : g7 < (w8.setCells g7 0 L7).heap.size := by have := k_.size; omega
  generalize World.setCells _ _ _ _ = w9 at b_ n7_ hM_ hZ7 ⊢
  obtain ⟨A7, c7, hL7e, hc7, hC7⟩ := k25_open (k25.K_of_M hM_)
  have HSC : Aside0 (∀ w, Below w9.heap.size w9 w → Calls Try.prog 26 #[.agg LC.toArray, .agg L7.toArray] w fun e w' => e = .returned (.bool true) ∧ Below w.heap.size w w') := ⟨fun w hb => by
    rw [HLC.out, hL7e]
    exact refSameCall_calls G y y A2 A7 c2 c7 true w (Kd.C_below HY.out ((HT6.out.trans (b_.mono HT6.out.size)).trans (hb.mono (Nat.le_trans HT6.out.size b_.size)))) Hyc.out (Kd.C_below hC7 hb) hc7 HG.out (same_self_F G y HG.out)⟩
  have HT9 := Aside0.mk (below_step HT6.out b_)
  have hR2_ := rangeAt_below HR2.out b_ HZ2.out
  have hR3_ := rangeAt_below HR3.out b_ HZ3.out
  have HR29 := Aside0.mk hR2_
  have HR39 := Aside0.mk hR3_
  have L79 := Aside0.mk n7_
  have HZ9 : Aside0 (g2 < w9.heap.size ∧ g3 < w9.heap.size ∧ g7 < w9.heap.size) := ⟨Nat.lt_of_lt_of_le HZ2.out b_.size, Nat.lt_of_lt_of_le HZ3.out b_.size, hZ7⟩
  clear hz8 g7lt e7 k_ b_ n7_ hM_ hZ7 hL7e hc7 hC7 hR2_ hR3_
  go_upto_region 6 with (first
    | ((with_reducible refine gate_dst (N := 43) rfl ?_); refine wpList_load_mid rfl 33 _ rfl g3 0 rfl L _ HR39.out Try.underlying33 rfl HIL.out ?_)
    | (go_at_call 19; go_loud ((with_reducible refine (HEN.out _ HT9.out).mono ?_); rintro e w10 ⟨v10, rfl, hr_, hb_⟩; rw [HBX.out] at hr_; rw [show errE true = 0 from rfl]; obtain ⟨A10, c10, hv_, hc_, hC_⟩ := Kd.R_reads hr_; subst hv_; have Hc10 := Aside0.mk hc_; have HC10 := Aside0.mk hC_; have B10 := Aside0.mk hb_; clear hr_ hc_ hC_ hb_)))
  go_upto_region 7 with (first
    | (go_at_call 21; go_loud (have hd_ := decodeExt_calls A10 c10 b w10 HC10.out Hc10.out HBB.out HBL.out; rw [HDB.out, Option.getD_some, show errOf (some x) = 0 from rfl] at hd_; (with_reducible refine hd_.mono ?_); clear hd_; rintro e w11 ⟨⟨x', A11, c11, he_, hx_, hC_, hc_, hxx_⟩, hb_⟩; rw [hxx_] at he_ hx_ hC_ hc_; subst he_; clear hxx_; obtain ⟨L11, hL_⟩ : ∃ L, L = x.cells A11 c11 := ⟨_, rfl⟩; rw [← hL_]; have HL11 := Aside0.mk hL_; have HC11 := Aside0.mk hC_; have Hc11 := Aside0.mk hc_; have B11 := Aside0.mk hb_; have HLl11 : Aside0 (L11.length = 49) := ⟨by rw [hL_]; exact Ext.cells_length _ _ _ hx_⟩; have HLo11 : Aside0 (∀ v ∈ L11, v.oneCell' = true) := ⟨by rw [hL_]; exact Ext.cells_one _ _ _⟩; clear hx_ hC_ hc_ hb_ hL_))
    | ((with_reducible refine gate_dst (N := 11) rfl ?_); refine box_event ?hg (N := 11) ?hd (cs := Z.toArray) (t := 33) ?hr ?_; (case hd => rfl); (case hg => rfl); (case hr => first | (simp [execOp, Instr.alloc, HAL.out, newVar, newRow, go_sem]; done) | (simp [execOp, Instr.alloc, HAL.out, newVar, newRow, go_sem]; rfl)); intro g11 hg_ w12 hbox_ hb_; have h11_ : Lies w12 g11 Z := Lies.box hbox_; have L1112 := Aside0.mk h11_; have G11 := Aside0.mk hg_; have B12 := Aside0.mk hb_; clear h11_ hg_ hbox_ hb_)
    | ((with_reducible refine gate_store (t := 33) (p := 11) rfl ?_); refine wpList_store_mid rfl 33 _ _ rfl g11 0 L11.toArray rfl rfl (by rw [List.size_toArray, HLl11.out, ← HZl.out]; exact L1112.out.there) (by rw [List.size_toArray, HLl11.out]; exact info_ext') (all_oneCell_toArray HLo11.out) ?_))
  have e11 := G11.out
  have z11 := B11.out.size
  have z10 := B10.out.size
  have z12 := B12.out.size
  have k_ := kept_setCells g11 0 L11 w12
  have b_ : Below w9.heap.size w9 (w12.setCells g11 0 L11) := below_setCells' g11 (by omega) L11 0 w12 (below_step (below_step B10.out B11.out) B12.out)
  have n_ : Lies (w12.setCells g11 0 L11) g11 L11 := by have := L1112.out.splice 0 L11 (by rw [HLl11.out, HZl.out]; decide); rwa [List.take_zero, List.nil_append, List.drop_of_length_le (by rw [HLl11.out, HZl.out]; decide), List.append_nil] at this
  have hC_ : Kd.C k25 (w12.setCells g11 0 L11) A11 x.call.f3.length x.call.f3 := Kd.C_below HC11.out (below_setCells' (B := w11.heap.size) g11 (by omega) L11 0 w12 B12.out)
  generalize World.setCells _ _ _ _ = w13 at b_ n_ hC_ ⊢
  have HSX : Aside0 (∀ w, Below w13.heap.size w13 w → Calls Try.prog 23 #[.agg L.toArray, .agg L11.toArray] w fun e w' => e = .returned (.bool true) ∧ Below w.heap.size w w') := ⟨fun w hb => by
    rw [HL.out, HL11.out]
    have := refSameExt_calls F x x A A11 c c11 true w Hx.out Hx.out (Kd.C_below HC.out (below_step (below_step HT9.out b_) hb)) Hc.out (Kd.C_below hC_ hb) Hc11.out HF.out (same_self_F F x.call HF.out)
    rw [sameX_self] at this
    exact this⟩
  have hR2 := rangeAt_below HR29.out b_ HZ9.out.1
  have hR3 := rangeAt_below HR39.out b_ HZ9.out.2.1
  have hR7 := rangeAt_below L79.out.range b_ HZ9.out.2.2
  have hR11 := n_.range
  have HT13 := Aside0.mk (below_step HT9.out b_)
  have HZ13 : Aside0 (g2 < w13.heap.size ∧ g3 < w13.heap.size ∧ g7 < w13.heap.size ∧ g11 < w13.heap.size) := ⟨Nat.lt_of_lt_of_le HZ9.out.1 b_.size, Nat.lt_of_lt_of_le HZ9.out.2.1 b_.size, Nat.lt_of_lt_of_le HZ9.out.2.2 b_.size, n_.lt (by rw [HLl11.out]; decide)⟩
  have HS13 := Aside0.mk (fun (w : World) (h : Below w9.heap.size w9 w) => HSC.out w h)
  have HB13 := Aside0.mk b_
  clear e11 z11 z10 z12 k_ b_ n_ hC_ HSC
  go_wp2_with (first
    | ((with_reducible refine gate_dst (N := 61) rfl ?_); (try (refine gate_guard (by rfl) ?_; dsimp only)); refine wpList_load_mid rfl 25 _ rfl g2 0 rfl LC _ hR2 Try.underlying25 rfl HIC.out ?_)
    | ((with_reducible refine gate_dst (N := 62) rfl ?_); (try (refine gate_guard (by rfl) ?_; dsimp only)); refine wpList_load_mid rfl 25 _ rfl g7 0 rfl L7 _ hR7 Try.underlying25 rfl (by rw [HL7.out]; exact info_call) ?_)
    | (go_at_call 26; go_loud ((with_reducible refine (HS13.out _ HB13.out).mono ?_); rintro e w14 ⟨rfl, hb_⟩; replace hR3 := rangeAt_below hR3 hb_ HZ13.out.2.1; replace hR11 := rangeAt_below hR11 hb_ HZ13.out.2.2.2; have HB14 := Aside0.mk hb_; clear hb_))
    | ((with_reducible refine gate_dst (N := 66) rfl ?_); (try (refine gate_guard (by rfl) ?_; dsimp only)); refine wpList_load_mid rfl 33 _ rfl g3 0 rfl L _ hR3 Try.underlying33 rfl HIL.out ?_)
    | ((with_reducible refine gate_dst (N := 67) rfl ?_); (try (refine gate_guard (by rfl) ?_; dsimp only)); refine wpList_load_mid rfl 33 _ rfl g11 0 rfl L11 _ hR11 Try.underlying33 rfl (by rw [HLl11.out]; exact info_ext') ?_)
    | (go_at_call 23; go_loud ((with_reducible refine (HSX.out _ HB14.out).mono ?_); rintro e w15 ⟨rfl, hb_⟩; have HB15 := Aside0.mk (below_step HB14.out hb_); clear hb_))
    | (go_at_call 10; (with_reducible refine (known_calls _).mono ?_); rintro e w16 ⟨rfl, hb_⟩; have HB16 := Aside0.mk (below_step HT13.out (below_step HB15.out hb_)); clear hb_))
  go_ret
  exact ⟨rfl, HB16.out⟩
set_option maxRecDepth 100000 in
theorem walks : Walks 8 Try.f8 := by
  intro H enc W base args ds ps hval hA _ _ _
  rw [Try.params8] at hA hval
  obtain ⟨v0, v1, d0, d1, p0, p1, rfl, rfl, rfl, h0, h1⟩ := trodAll_two hA
  obtain ⟨A0, c0, y, rfl, hy, hyc⟩ := ArgCall.open_call (hval 0 25 v0 rfl rfl) h0
  obtain ⟨A1, c1, x, rfl, hx, hC, hc⟩ := ArgCall.open_ext (hval 1 33 v1 rfl rfl) h1
  exact walk y A0 c0 x A1 c1 W hy hyc hx hC hc
set_option maxRecDepth 100000 in
theorem rowed (os : Os) (started : os.Started) (H : Type) (enc : TypeId × Value → H) :
    ReturnsInHanded {} Try.checked os 8 .any (Rows.codeBackSpec.pre6 enc Try.prog Try.f8 Rows.codeBackRow.domain false) (Rows.codeBackSpec.post enc Try.prog Try.f8 false true false false) :=
  lifted (s := Rows.codeBackSpec) Try.func8 (by kernel_rfl) (by kernel_rfl) (by kernel_rfl) (by kernel_rfl) rfl
    (fun H ds h => by
      have h' : ds.length = 2 := h
      match ds, h' with
      | [d1, d2], _ => rfl)
    os started H enc
    (ChangeSpec.witness6 (enc := enc) (C := Try.checked) false ⟨#[], #[.agg #[.int .i64 0, .int .i64 0, .int .i64 0, .slice none 0 0], .agg ((ext0 0 0).cells none 0).toArray], []⟩ 8 (by kernel_rfl) (by kernel_rfl) (by kernel_rfl) (by kernel_rfl)) walks
theorem over : Rows.codeBackRow.holds Try.pinned (OpenSpec.ofChange Rows.codeBackSpec) :=
  OpenClaim.holds_of_wide 8 Try.f8 rfl rfl rfl rfl rfl rfl rfl ⟨rfl, rfl, rfl, rfl, rfl⟩ rfl rfl rfl rfl rfl (by kernel_rfl) Try.func8 (by kernel_rfl)
    (of_decide_eq_true (by kernel_rfl)) (by unfold Func.isWrapper; first | (rw [if_pos (by decide +kernel)]; kernel_rfl) | (rw [if_neg (by decide +kernel)]; exact ⟨rfl, rfl⟩))
    (fun os started H enc _ => rowed os started H enc)
end Go.Proofs.Ytilckocpgififaa.LawCodeBack
namespace Go.Proofs.Ytilckocpgififaa
/-- The row, under a short name, for the claim. -/
theorem codeBack_holds : Rows.CodeBackSaid := LawCodeBack.over
end Go.Proofs.Ytilckocpgififaa
