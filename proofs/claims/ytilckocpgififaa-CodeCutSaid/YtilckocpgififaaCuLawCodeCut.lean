/- CodeCut: bytes that are cut short, or have anything behind, are none. For every extrinsic, every number, all bytes. -/
import Derived.Test.YtilckocpgififaaCuFrame
import Derived.Test.YtilckocpgififaaCuHKnown
import Derived.Test.YtilckocpgififaaCuArgCall
import Derived.Test.YtilckocpgififaaCuHDecode
import Derived.Test.YtilckocpgififaaCuHDecExt
import Derived.Test.YtilckocpgififaaCuGx7
import Derived.Laws.BitsLemmas
namespace Go.Proofs.Ytilckocpgififaa.LawCodeCut
set_option linter.unusedSimpArgs false
set_option linter.unusedVariables false
open Go.Extern.Stop (cell)
open Go.ChangeShapes Go.WideShapes Go.ChangeAt Go.RowKit Go.Proofs.Ytilckocpgififaa.G Go.Proofs.Ytilckocpgififaa.PNum Go.Proofs.Ytilckocpgififaa.Frame Go.Proofs.YtilckocpgififaaW.PrintWords Go.Proofs.YtilckocpgififaaW.PrintLast Go.Proofs.YtilckocpgififaaW.PrintMore

theorem i64_and65535 (n : Int) : Go.bits .and .i64 n 65535 = n % 65536 := by
  have h127 : (BitVec.ofInt 64 65535).toNat = 2 ^ 16 - 1 := by decide
  have key : (BitVec.ofInt 64 n &&& BitVec.ofInt 64 65535).toNat = (n % ((2 ^ 64 : Nat) : Int)).toNat % 2 ^ 16 := by
    rw [BitVec.toNat_and, BitVec.toNat_ofInt, h127, Nat.and_two_pow_sub_one_eq_mod]
  show IntKind.i64.wrap ((BitVec.ofInt 64 n &&& BitVec.ofInt 64 65535).toNat : Nat) = n % 65536
  rw [key, IntKind.wrap_i64]
  omega
set_option maxRecDepth 100000 in
set_option maxHeartbeats 32000000 in
theorem walk (x : Ext) (A : Option Addr) (c : Nat) (n : Int) (A2 : Option Addr) (c2 : Nat) (m : List Int) (W : World) (hx : x.sum.length = 32) (hC : Kd.C k25 W A x.call.f3.length x.call.f3) (hc : x.call.f3.length ≤ c) (hm : Kd.C (Kd.int .u8) W A2 m.length m) (hmc : m.length ≤ c2) (hmb : IsBytes m) :
    Calls Try.prog 9 #[.agg (x.cells A c).toArray, .int .i64 n, .slice A2 m.length c2] W fun e w' => e = .returned (.bool true) ∧ Below W.heap.size W w' := by
  obtain ⟨F, hF⟩ := fits_kids W x.call A hC
  obtain ⟨k, r, hs⟩ := size_some F x.call hF
  obtain ⟨L, hL⟩ : ∃ L, L = x.cells A c := ⟨_, rfl⟩
  obtain ⟨e0, he0⟩ : ∃ b, isExtP x = b := ⟨_, rfl⟩
  have HRX : Aside0 (∀ w, Below W.heap.size W w → Calls Try.prog 13 #[.agg L.toArray] w fun e w' => e = .returned (.bool e0) ∧ Below w.heap.size w w') := ⟨fun w hb => by rw [hL, ← he0]; exact althingref7_IsExt.all x A c w hx (Kd.C_below hC hb) hc⟩
  have HEN : Aside0 (∀ w, Below W.heap.size W w → Calls Try.prog 19 #[.agg L.toArray] w fun e w' => ∃ v0 : Value, e = .returned (.tuple #[v0, .int .i64 (errE e0)]) ∧ Kd.R (Kd.int .u8) 5 w' w.heap.size (fun _ => True) v0 (bytesE x) ∧ Below w.heap.size w w') := ⟨fun w hb => by rw [hL, ← he0]; exact encodeExt_calls x A c w hx (Kd.C_below hC hb) hc⟩
  have HIL : Aside0 ((Try.prog.info? 33).map (·.size) = some L.length) := ⟨by rw [hL, Ext.cells_length _ _ _ hx]; exact info_ext'⟩
  have HCC0 := Aside0.mk (fun (w' : World) (g : Nat) (h : w'.rangeAt g 0 L) => x.at_call A c hx (hL ▸ h))
  have HCC : Aside0 (∀ {g : Nat} (w' : World) (h : w'.rangeAt g 0 L), w'.cell? ⟨g, 45, none⟩ = some (.int .i64 x.call.f0) ∧ w'.cell? ⟨g, 46, none⟩ = some (.int .i64 x.call.f1) ∧ w'.cell? ⟨g, 47, none⟩ = some (.int .i64 x.call.f2) ∧ w'.cell? ⟨g, 48, none⟩ = some (.slice A x.call.f3.length c)) := ⟨fun w' h => HCC0.out w' _ h⟩
  rw [← hL]
  have HC := Aside0.mk hC
  have Hc := Aside0.mk hc
  have HS := Aside0.mk hs
  have HE0 := Aside0.mk he0
  have Hx := Aside0.mk hx
  have HM := Aside0.mk hm
  have HMC := Aside0.mk hmc
  have HMB := Aside0.mk hmb
  have hml : m.length ≤ 9223372036854775807 := hm.2.1
  clear hL hC hc hx hs hF he0 HCC0 hm hmc hmb
  by_cases h1 : r ≥ 300
  · have d1 : decide (r ≥ 300) = true := decide_eq_true h1
    go_enter Try.func9, Try.ntmps9
    go_upto_region 1 with ((with_reducible refine gate_dst (N := 3) rfl ?_); refine box_event ?hg (N := 3) ?hd (cs := L.toArray) (t := 33) ?hr ?_; (case hd => rfl); (case hg => rfl); (case hr => first | (go_simp; done) | (go_simp; rfl)); intro g3 hg1 w1 hbox1 hb1; have hR3 := rangeAt_box hbox1; have hZ3 := blk_lt hbox1; have hT0 := hb1; clear hg1 hbox1 hb1)
    obtain ⟨c0, c1, c2', c3⟩ := HCC.out _ hR3
    go_wp2_with (first
      | (go_at_call 12; with_reducible refine (althinglaw7_size.calls k x.call.f0 x.call.f1 x.call.f2 A c x.call.f3 r _ (Kd.C_below HC.out hT0) Hc.out HS.out).mono ?_; rintro e w2 ⟨rfl, hB5⟩; replace hR3 := rangeAt_below hR3 hB5 hZ3; replace hT0 := below_step hT0 hB5; replace hZ3 := Nat.lt_of_lt_of_le hZ3 hB5.size; clear hB5))
    all_goals go_ret
    all_goals exact ⟨rfl, hT0⟩
  have d1 : decide (r ≥ 300) = false := decide_eq_false h1
  have key : e0 = false ∨ e0 = true ∧ (m.length < 1 ∨ m.length > 100) ∨ e0 = true ∧ 1 ≤ m.length ∧ m.length ≤ 100 := by
    cases e0 with
    | false => exact .inl rfl
    | true =>
      by_cases h : m.length < 1 ∨ m.length > 100
      · exact .inr (.inl ⟨rfl, h⟩)
      · exact .inr (.inr ⟨rfl, by omega, by omega⟩)
  rcases key with rfl | ⟨rfl, hml2⟩ | ⟨rfl, hm1, hm2⟩
  · go_enter Try.func9, Try.ntmps9
    go_upto_region 1 with ((with_reducible refine gate_dst (N := 3) rfl ?_); refine box_event ?hg (N := 3) ?hd (cs := L.toArray) (t := 33) ?hr ?_; (case hd => rfl); (case hg => rfl); (case hr => first | (go_simp; done) | (go_simp; rfl)); intro g3 hg1 w1 hbox1 hb1; have hR3 := rangeAt_box hbox1; have hZ3 := blk_lt hbox1; have hT0 := hb1; clear hg1 hbox1 hb1)
    obtain ⟨c0, c1, c2', c3⟩ := HCC.out _ hR3
    go_wp2_with (first
      | (go_at_call 12; with_reducible refine (althinglaw7_size.calls k x.call.f0 x.call.f1 x.call.f2 A c x.call.f3 r _ (Kd.C_below HC.out hT0) Hc.out HS.out).mono ?_; rintro e w2 ⟨rfl, hB5⟩; replace hR3 := rangeAt_below hR3 hB5 hZ3; replace hT0 := below_step hT0 hB5; replace hZ3 := Nat.lt_of_lt_of_le hZ3 hB5.size; clear hB5)
      | ((with_reducible refine gate_dst (N := 18) rfl ?_); (try (refine gate_guard (by rfl) ?_; dsimp only)); refine wpList_load_mid rfl 33 _ rfl g3 0 rfl L _ hR3 Try.underlying33 rfl HIL.out ?_)
      | (go_at_call 13; with_reducible refine (HRX.out _ hT0).mono ?_; rintro e w3 ⟨rfl, hB5⟩; replace hR3 := rangeAt_below hR3 hB5 hZ3; replace hT0 := below_step hT0 hB5; replace hZ3 := Nat.lt_of_lt_of_le hZ3 hB5.size; clear hB5))
    all_goals go_ret
    all_goals exact ⟨rfl, hT0⟩
  · have dl : (decide ((m.length : Int) < 1) = true) ∨ (decide ((m.length : Int) < 1) = false ∧ decide ((m.length : Int) > 100) = true) := by
      rcases hml2 with h | h
      · exact .inl (decide_eq_true (by omega))
      · exact .inr ⟨decide_eq_false (by omega), decide_eq_true (by omega)⟩
    have dl2 : (decide (m.length < 1) = true) ∨ (decide (m.length < 1) = false ∧ decide (100 < m.length) = true) := by
      rcases hml2 with h | h
      · exact .inl (decide_eq_true (by omega))
      · exact .inr ⟨decide_eq_false (by omega), decide_eq_true (by omega)⟩
    go_enter Try.func9, Try.ntmps9
    go_upto_region 1 with ((with_reducible refine gate_dst (N := 3) rfl ?_); refine box_event ?hg (N := 3) ?hd (cs := L.toArray) (t := 33) ?hr ?_; (case hd => rfl); (case hg => rfl); (case hr => first | (go_simp; done) | (go_simp; rfl)); intro g3 hg1 w1 hbox1 hb1; have hR3 := rangeAt_box hbox1; have hZ3 := blk_lt hbox1; have hT0 := hb1; clear hg1 hbox1 hb1)
    obtain ⟨c0, c1, c2', c3⟩ := HCC.out _ hR3
    rcases hml2 with hml3 | hml3
    · have hm0 : m.length = 0 := by omega
      have hm0' := Aside0.mk hm0
      go_wp2_with (first
        | (go_at_call 12; with_reducible refine (althinglaw7_size.calls k x.call.f0 x.call.f1 x.call.f2 A c x.call.f3 r _ (Kd.C_below HC.out hT0) Hc.out HS.out).mono ?_; rintro e w2 ⟨rfl, hB5⟩; replace hR3 := rangeAt_below hR3 hB5 hZ3; replace hT0 := below_step hT0 hB5; replace hZ3 := Nat.lt_of_lt_of_le hZ3 hB5.size; clear hB5)
        | ((with_reducible refine gate_dst (N := 18) rfl ?_); (try (refine gate_guard (by rfl) ?_; dsimp only)); refine wpList_load_mid rfl 33 _ rfl g3 0 rfl L _ hR3 Try.underlying33 rfl HIL.out ?_)
        | (go_at_call 13; with_reducible refine (HRX.out _ hT0).mono ?_; rintro e w3 ⟨rfl, hB5⟩; replace hR3 := rangeAt_below hR3 hB5 hZ3; replace hT0 := below_step hT0 hB5; replace hZ3 := Nat.lt_of_lt_of_le hZ3 hB5.size; clear hB5))
      all_goals go_ret
      all_goals exact ⟨rfl, hT0⟩
    · go_wp2_with (first
        | (go_at_call 12; with_reducible refine (althinglaw7_size.calls k x.call.f0 x.call.f1 x.call.f2 A c x.call.f3 r _ (Kd.C_below HC.out hT0) Hc.out HS.out).mono ?_; rintro e w2 ⟨rfl, hB5⟩; replace hR3 := rangeAt_below hR3 hB5 hZ3; replace hT0 := below_step hT0 hB5; replace hZ3 := Nat.lt_of_lt_of_le hZ3 hB5.size; clear hB5)
        | ((with_reducible refine gate_dst (N := 18) rfl ?_); (try (refine gate_guard (by rfl) ?_; dsimp only)); refine wpList_load_mid rfl 33 _ rfl g3 0 rfl L _ hR3 Try.underlying33 rfl HIL.out ?_)
        | (go_at_call 13; with_reducible refine (HRX.out _ hT0).mono ?_; rintro e w3 ⟨rfl, hB5⟩; replace hR3 := rangeAt_below hR3 hB5 hZ3; replace hT0 := below_step hT0 hB5; replace hZ3 := Nat.lt_of_lt_of_le hZ3 hB5.size; clear hB5))
      all_goals go_ret
      all_goals exact ⟨rfl, hT0⟩
  · have da : decide ((m.length : Int) < 1) = false := decide_eq_false (by omega)
    have db : decide ((m.length : Int) > 100) = false := decide_eq_false (by omega)
    have dc : decide (m.length < 1) = false := decide_eq_false (by omega)
    have dd : decide (100 < m.length) = false := decide_eq_false (by omega)
    obtain ⟨b, hb⟩ : ∃ b, b = encE x := ⟨_, rfl⟩
    have hbx : bytesE x = b := by unfold bytesE; rw [HE0.out, if_pos rfl, hb]
    have hbl : b.length ≤ 10000 ∧ 0 < b.length := by rw [hb]; exact encE_short HE0.out Hx.out
    have hbb : IsBytes b := by rw [hb]; exact encE_bytes x
    have hcut : ∀ j, j < b.length → decE (b.take j) = none := by
      intro j hj
      rw [hb] at hj ⊢
      exact decE_cut HE0.out Hx.out j hj (by have := (encE_short HE0.out Hx.out).1; omega)
    have hmore : decE (b ++ m) = none := by rw [hb]; exact decE_more HE0.out Hx.out m (by omega)
    have HBX := Aside0.mk hbx
    have HBL := Aside0.mk hbl
    have HBB := Aside0.mk hbb
    have HCUT := Aside0.mk hcut
    have HMORE := Aside0.mk hmore
    have hb0 : 0 < b.length := hbl.2
    have hb9 : b.length ≤ 10000 := hbl.1
    have hb1 : decide ((b.length : Int) = 0) = false := decide_eq_false (by omega)
    have hb2 : ((b.length : Int) == 0) = false := beq_eq_false_iff_ne.2 (by omega)
    have hb3 : (b.length == 0) = false := beq_eq_false_iff_ne.2 (by omega)
    clear hb hbx hbl hbb hcut hmore
    go_enter Try.func9, Try.ntmps9
    go_upto_region 1 with ((with_reducible refine gate_dst (N := 3) rfl ?_); refine box_event ?hg (N := 3) ?hd (cs := L.toArray) (t := 33) ?hr ?_; (case hd => rfl); (case hg => rfl); (case hr => first | (go_simp; done) | (go_simp; rfl)); intro g3 hg1 w1 hbox1 hb1; have hR3 := rangeAt_box hbox1; have hZ3 := blk_lt hbox1; have hT0 := hb1; clear hg1 hbox1 hb1)
    obtain ⟨c0, c1, c2', c3⟩ := HCC.out _ hR3
    go_upto_region 6 with (first
      | (go_at_call 12; with_reducible refine (althinglaw7_size.calls k x.call.f0 x.call.f1 x.call.f2 A c x.call.f3 r _ (Kd.C_below HC.out hT0) Hc.out HS.out).mono ?_; rintro e w2 ⟨rfl, hB5⟩; replace hR3 := rangeAt_below hR3 hB5 hZ3; replace hT0 := below_step hT0 hB5; replace hZ3 := Nat.lt_of_lt_of_le hZ3 hB5.size; clear hB5)
      | ((with_reducible refine gate_dst (N := 18) rfl ?_); (try (refine gate_guard (by rfl) ?_; dsimp only)); refine wpList_load_mid rfl 33 _ rfl g3 0 rfl L _ hR3 Try.underlying33 rfl HIL.out ?_)
      | ((with_reducible refine gate_dst (N := 33) rfl ?_); refine wpList_load_mid rfl 33 _ rfl g3 0 rfl L _ hR3 Try.underlying33 rfl HIL.out ?_)
      | (go_at_call 13; with_reducible refine (HRX.out _ hT0).mono ?_; rintro e w3 ⟨rfl, hB5⟩; replace hR3 := rangeAt_below hR3 hB5 hZ3; replace hT0 := below_step hT0 hB5; replace hZ3 := Nat.lt_of_lt_of_le hZ3 hB5.size; clear hB5)
      | (go_at_call 19; go_loud ((with_reducible refine (HEN.out _ hT0).mono ?_); rintro e w4 ⟨v4, rfl, hr_, hB5⟩; rw [HBX.out] at hr_; rw [show errE true = 0 from rfl]; obtain ⟨A4, c4, hv_, hc_, hC_⟩ := Kd.R_reads hr_; subst hv_; have Hc4 := Aside0.mk hc_; have HC4 := Aside0.mk hC_; replace hT0 := below_step hT0 hB5; clear hB5 hr_ hc_ hC_ hR3 hZ3)))
    clear c0 c1 c2' c3 da db dc dd d1 hb1 hb2 hb3
    have HT0 := Aside0.mk hT0
    clear hT0
    obtain ⟨q, hq⟩ : ∃ q, Go.bits .and .i64 n 65535 = q := ⟨_, rfl⟩
    have hq0 : 0 ≤ q := by rw [← hq, i64_and65535]; omega
    have hq1 : q ≤ 65535 := by rw [← hq, i64_and65535]; omega
    obtain ⟨j, hj⟩ : ∃ j : Nat, (j : Int) = q % (b.length : Int) := ⟨(q % (b.length : Int)).toNat, by rw [Int.toNat_of_nonneg (Int.emod_nonneg _ (by omega))]⟩
    have hjl : j < b.length := by have := Int.emod_lt_of_pos q (b := (b.length : Int)) (by omega); omega
    have hjt : q.tmod (b.length : Int) = (j : Int) := by rw [Int.tmod_eq_emod_of_nonneg hq0, hj]
    have hne : ¬ (b.length : Int) = 0 := by omega
    obtain ⟨i8, hi8, _, hsz8, _⟩ := info_parts info5
    have hhead : ∀ W : World, (Instr.slice 38 (.slice A4 b.length c4) none (some (.int .i64 (j : Int))) none).run Try.prog W = .ok (.slice A4 j c4) W := by
      intro W
      have := cut_to (P := Try.prog) 38 5 .i64 Try.underlying38 hi8 A4 b.length c4 (j : Int) (by omega) (by omega) Hc4.out W
      rwa [Int.toNat_natCast] at this
    have htl : (b.take j).length = j := List.length_take_of_le (by omega)
    have HJL := Aside0.mk hjl
    have hdc := fun (w : World) (hw : Below w4.heap.size w4 w) => decodeExt_calls A4 c4 (b.take j) w (by have := Kd.C_take (Kd.C_below HC4.out hw) (m := j) (by have := HJL.out; omega); exact this) (by rw [htl]; exact Nat.le_trans (Nat.le_of_lt HJL.out) Hc4.out) (HBB.out.take j) (by rw [htl]; omega)
    rw [HCUT.out j hjl, htl] at hdc
    have HDC := Aside0.mk hdc
    obtain ⟨Z, hZ⟩ : ∃ Z, Z = zeroE := ⟨_, rfl⟩
    have hZl : Z.length = 49 := by rw [hZ]; exact zeroE_length
    have HAL : Aside0 (∀ w, (zeroValue 33).run Try.prog w = .ok (.agg Z.toArray) w) := ⟨fun w => by rw [hZ]; exact zero_ext w⟩
    have HZl := Aside0.mk hZl
    clear hZ hZl hdc htl hjl hi8 hsz8
    have hjt' := hjt
    clear hj
    go_upto_region 7 with (first
      | (go_at_call 21; go_loud ((with_reducible refine (HDC.out _ (Below.refl _ _)).mono ?_); rintro e w5 ⟨⟨y, A5, c5, rfl, hy_, _, _, _⟩, hb_⟩; rw [show errOf (none : Option Ext) = 2 from rfl]; obtain ⟨Y, hY_⟩ : ∃ Y, Y = y.cells A5 c5 := ⟨_, rfl⟩; have hYl_ : Y.length = 49 := (by rw [hY_]; exact Ext.cells_length _ _ _ hy_); have hYo_ : ∀ v ∈ Y, v.oneCell' = true := (by rw [hY_]; exact Ext.cells_one _ _ _); rw [← hY_]; have HYl := Aside0.mk hYl_; have HYo := Aside0.mk hYo_; have HB5 := Aside0.mk hb_; clear hb_ hy_ hY_ hYl_ hYo_))
      | ((with_reducible refine gate_dst (N := 9) rfl ?_); refine box_event ?hg (N := 9) ?hd (cs := Z.toArray) (t := 33) ?hr ?_; (case hd => rfl); (case hg => rfl); (case hr => first | (simp [execOp, Instr.alloc, HAL.out, newVar, newRow, go_sem]; done) | (simp [execOp, Instr.alloc, HAL.out, newVar, newRow, go_sem]; rfl)); intro g9 hg_ w6 hbox_ hb_; have h9_ : Lies w6 g9 Z := Lies.box hbox_; have L9 := Aside0.mk h9_; have HG9 := Aside0.mk hg_; have HB6 := Aside0.mk hb_; clear h9_ hg_ hbox_ hb_)
      | ((with_reducible refine gate_store (t := 33) (p := 9) rfl ?_); refine wpList_store_mid rfl 33 _ _ rfl g9 0 Y.toArray rfl rfl (by rw [List.size_toArray, HYl.out, ← HZl.out]; exact L9.out.there) (by rw [List.size_toArray, HYl.out]; exact info_ext') (all_oneCell_toArray HYo.out) ?_))
    have hb7 : Below w4.heap.size w4 (w6.setCells g9 0 Y) := below_setCells' g9 (by have := HG9.out; have := HB5.out.size; omega) Y 0 w6 (below_step HB5.out HB6.out)
    generalize World.setCells _ _ _ _ = w7 at hb7 ⊢
    have HB7 := Aside0.mk hb7
    have HT7 := Aside0.mk (below_step HT0.out hb7)
    have HC7 := Aside0.mk (Kd.C_below HC4.out hb7)
    have HM7 := Aside0.mk (Kd.C_below HM.out (below_step HT0.out hb7))
    clear hb7 hhead hjt hjt' hne hq0 hq1 hq
    go_upto_region 8 with (first
      | ((with_reducible refine gate_dst (N := 56) rfl ?_); refine Kd.R_lit (Kd.int .u8) (w0 := w7) w7.heap.size 5 ?hg (N := 56) ?hd (xs := ([] : List Int)) (inner := []) (ok := fun _ => True) (okp := fun _ => True) ?hr ?hp (fun _ hk => hk) trivial (Below.refl _ _) (Nat.le_refl _) (by simp) ?_; (case hd => rfl); (case hg => rfl); (case hr => first | (go_simp; done) | (go_simp; rfl)); (case hp => exact (Reps.none _ _)); intro v8 w8 ho_ hb_ hg_ hnew_; clear hg_ hnew_; have HR8 := Aside0.mk ho_; have HB8 := Aside0.mk hb_; clear ho_ hb_)
      | ((with_reducible refine gate_builtin (b := .append) (xs := #[.tmp 56, .tmp 57]) rfl ?_); at_builtin; refine Kd.R_append_rows (Kd.int .u8) (w0 := w7) w7.heap.size rfl (.tmp 56) (.tmp 57) 38 5 (.int .u8 0) 1 rfl Try.underlying38 info_u8z rfl (by decide) (by omega) _ [] b _ _ _ (fun _ => True) (fun _ => False) rfl rfl HR8.out (Kd.C_below HC7.out HB8.out) (fun _ _ h => h) (fun _ h => h.elim) (fun _ _ => trivial) HB8.out HB8.out.size (by have := HBL.out; simp; omega) ?_; intro v9 w9 ho_ hb_ hg_ hat_; clear hg_ hat_; rw [List.nil_append] at ho_; have HR9 := Aside0.mk ho_; have HB9 := Aside0.mk hb_; obtain ⟨A9, c9, hv_, hc_, hC_⟩ := Kd.R_reads ho_; subst hv_; clear ho_ hb_ hc_ hC_)
      | ((with_reducible refine gate_builtin (b := .append) (xs := #[.tmp 58, .tmp 59]) rfl ?_); at_builtin; refine Kd.R_append_rows (Kd.int .u8) (w0 := w7) w7.heap.size rfl (.tmp 58) (.tmp 59) 38 5 (.int .u8 0) 1 rfl Try.underlying38 info_u8z rfl (by decide) (by omega) _ b m _ _ _ (fun _ => True) (fun _ => False) rfl rfl HR9.out (Kd.C_below HM7.out HB9.out) (fun _ _ h => h) (fun _ h => h.elim) (fun _ _ => trivial) HB9.out HB9.out.size (by have := HBL.out; omega) ?_; intro v10 w10 ho_ hb_ hg_ hat_; clear hg_ hat_; have HB10 := Aside0.mk hb_; obtain ⟨A10, c10, hv_, hc_, hC_⟩ := Kd.R_reads ho_; subst hv_; have Hc10 := Aside0.mk hc_; have HC10 := Aside0.mk hC_; have hlen_ : (b ++ m).length = b.length + m.length := List.length_append; clear ho_ hb_ hc_ hC_)
      | (go_at_call 21; go_loud (have hdc_ := decodeExt_calls A10 c10 (b ++ m) w10 HC10.out Hc10.out (HBB.out.append HMB.out) (by have := HBL.out; rw [List.length_append]; omega); rw [HMORE.out, List.length_append] at hdc_; (with_reducible refine hdc_.mono ?_); clear hdc_; rintro e w11 ⟨⟨y, A11, c11, rfl, hy_, _, _, _⟩, hb_⟩; rw [show errOf (none : Option Ext) = 2 from rfl]; obtain ⟨Y1, hY_⟩ : ∃ Y, Y = y.cells A11 c11 := ⟨_, rfl⟩; have hYl_ : Y1.length = 49 := (by rw [hY_]; exact Ext.cells_length _ _ _ hy_); have hYo_ : ∀ v ∈ Y1, v.oneCell' = true := (by rw [hY_]; exact Ext.cells_one _ _ _); rw [← hY_]; have HY1l := Aside0.mk hYl_; have HY1o := Aside0.mk hYo_; have HB11 := Aside0.mk hb_; clear hb_ hy_ hY_ hYl_ hYo_))
      | ((with_reducible refine gate_dst (N := 11) rfl ?_); refine box_event ?hg (N := 11) ?hd (cs := Z.toArray) (t := 33) ?hr ?_; (case hd => rfl); (case hg => rfl); (case hr => first | (simp [execOp, Instr.alloc, HAL.out, newVar, newRow, go_sem]; done) | (simp [execOp, Instr.alloc, HAL.out, newVar, newRow, go_sem]; rfl)); intro g11 hg_ w12 hbox_ hb_; have h11_ : Lies w12 g11 Z := Lies.box hbox_; have L11 := Aside0.mk h11_; have HG11 := Aside0.mk hg_; have HB12 := Aside0.mk hb_; clear h11_ hg_ hbox_ hb_)
      | ((with_reducible refine gate_store (t := 33) (p := 11) rfl ?_); refine wpList_store_mid rfl 33 _ _ rfl g11 0 Y1.toArray rfl rfl (by rw [List.size_toArray, HY1l.out, ← HZl.out]; exact L11.out.there) (by rw [List.size_toArray, HY1l.out]; exact info_ext') (all_oneCell_toArray HY1o.out) ?_))
    have hb13 : Below w7.heap.size w7 (w12.setCells g11 0 Y1) := below_setCells' g11 (by have := HG11.out; have := HB11.out.size; have := HB10.out.size; omega) Y1 0 w12 (below_step (below_step HB10.out HB11.out) HB12.out)
    generalize World.setCells _ _ _ _ = w13 at hb13 ⊢
    have HB13 := Aside0.mk (below_step HT7.out hb13)
    clear hb13
    go_wp2_with (go_at_call 10; (with_reducible refine (known_calls _).mono ?_); rintro e w14 ⟨rfl, hb_⟩; have HB14 := Aside0.mk (below_step HB13.out hb_); clear hb_)
    go_ret
    exact ⟨rfl, HB14.out⟩
set_option maxRecDepth 100000 in
theorem walks : Walks 9 Try.f9 := by
  intro H enc W base args ds ps hval hA _ _ _
  rw [Try.params9] at hA hval
  obtain ⟨v0, v1, v2, d0, d1, d2, p0, p1, p2, rfl, rfl, rfl, h0, h1, h2⟩ := trodAll_three hA
  obtain ⟨A0, c0, x, rfl, hx, hC, hc⟩ := ArgCall.open_ext (hval 0 33 v0 rfl rfl) h0
  obtain ⟨a1, rfl, rfl, rfl, _⟩ := open_int Try.underlying3 (hval 1 3 v1 rfl rfl) h1
  obtain ⟨A2, len, cap, l, rfl, ⟨hm, hmc⟩, rfl, hmb⟩ := ArgBytes.open_bytes (hval 2 38 v2 rfl rfl) h2
  exact walk x A0 c0 a1 A2 cap l W hx hC hc hm hmc hmb
set_option maxRecDepth 100000 in
theorem rowed (os : Os) (started : os.Started) (H : Type) (enc : TypeId × Value → H) :
    ReturnsInHanded {} Try.checked os 9 .any (Rows.codeCutSpec.pre6 enc Try.prog Try.f9 Rows.codeCutRow.domain false) (Rows.codeCutSpec.post enc Try.prog Try.f9 false true false false) :=
  lifted (s := Rows.codeCutSpec) Try.func9 (by kernel_rfl) (by kernel_rfl) (by kernel_rfl) (by kernel_rfl) rfl
    (fun H ds h => by
      have h' : ds.length = 3 := h
      match ds, h' with
      | [d1, d2, d3], _ => rfl)
    os started H enc
    (ChangeSpec.witness6 (enc := enc) (C := Try.checked) false ⟨#[], #[.agg ((ext0 0 0).cells none 0).toArray, .int .i64 0, .slice none 0 0], []⟩ 8 (by kernel_rfl) (by kernel_rfl) (by kernel_rfl) (by kernel_rfl)) walks
theorem over : Rows.codeCutRow.holds Try.pinned (OpenSpec.ofChange Rows.codeCutSpec) :=
  OpenClaim.holds_of_wide 9 Try.f9 rfl rfl rfl rfl rfl rfl rfl ⟨rfl, rfl, rfl, rfl, rfl⟩ rfl rfl rfl rfl rfl (by kernel_rfl) Try.func9 (by kernel_rfl)
    (of_decide_eq_true (by kernel_rfl)) (by unfold Func.isWrapper; first | (rw [if_pos (by decide +kernel)]; kernel_rfl) | (rw [if_neg (by decide +kernel)]; exact ⟨rfl, rfl⟩))
    (fun os started H enc _ => rowed os started H enc)
end Go.Proofs.Ytilckocpgififaa.LawCodeCut
namespace Go.Proofs.Ytilckocpgififaa
/-- The row, under a short name, for the claim. -/
theorem codeCut_holds : Rows.CodeCutSaid := LawCodeCut.over
end Go.Proofs.Ytilckocpgififaa
