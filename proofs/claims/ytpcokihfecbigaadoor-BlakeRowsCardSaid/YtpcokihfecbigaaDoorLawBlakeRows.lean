/- BlakeRows: how bytes are parted into rows does not matter. -/
import Derived.Test.YtpcokihfecbigaaDoorFrameD
import Derived.Test.YtpcokihfecbigaaDoorBLaw
import Derived.Test.YtpcokihfecbigaaDoorArgRowsB
namespace Go.Proofs.YtpcokihfecbigaaDoor.LawBlakeRows
set_option linter.unusedSimpArgs false
set_option linter.unusedVariables false
open Go.ChangeShapes Go.WideShapes Go.ChangeAt Go.RowKit Go.Proofs.YtpcokihfecbigaaDoor.G Go.Proofs.YtpcokihfecbigaaDoor.Frame Go.Proofs.YtpcokihfecbigaaDoor.ArgBytesB Go.Proofs.YtpcokihfecbigaaDoorW.PrintWords Go.Proofs.YtpcokihfecbigaaDoorW.PrintLast Go.Proofs.YtpcokihfecbigaaDoorW.PrintMore

set_option maxRecDepth 100000 in
set_option maxHeartbeats 4000000 in
theorem calls (A B : Option Addr) (ca cb : Nat) (l : List (List Int)) (key : List Int) (W : World) (hL : Kd.C (Kd.slice 5 (Kd.int .u8)) W A l.length l) (hla : l.length ≤ ca) (hlm : ∀ x ∈ l, (∀ c ∈ x, 0 ≤ c ∧ c < 256) ∧ x.length ≤ 140737488355328)
    (hK : Kd.C (Kd.int .u8) W B key.length key) (hkb : key.length ≤ cb) (hkB : ∀ c ∈ key, 0 ≤ c ∧ c < 256) (hT : Spaces W) :
    Calls Tryd.prog 4 #[.slice A l.length ca, .slice B key.length cb] W fun e w' => e = .returned (.bool true) ∧ Below W.heap.size W w' := by
  have hfl : ∀ k, k < l.length → (l.take (k + 1)).flatten.length = (l.take k).flatten.length + (rd_L1 l (k : Int)).length := fun k hk => by
    rw [List.take_succ_eq_append_getElem hk, List.flatten_append, List.length_append]
    congr 1
    unfold rd_L1
    rw [Int.toNat_natCast, List.getD_eq_getElem?_getD, List.getElem?_eq_getElem hk]
    simp
  have hap : ∀ k, k < l.length → (l.take (k + 1)).flatten = (l.take k).flatten ++ rd_L1 l (k : Int) := fun k hk => by
    rw [List.take_succ_eq_append_getElem hk, List.flatten_append]
    congr 1
    unfold rd_L1
    rw [Int.toNat_natCast, List.getD_eq_getElem?_getD, List.getElem?_eq_getElem hk]
    simp
  have hmx : ∀ k, k < l.length → (rd_L1 l (k : Int)).length ≤ 140737488355328 := fun k hk => by
    unfold rd_L1
    rw [Int.toNat_natCast, List.getD_eq_getElem?_getD, List.getElem?_eq_getElem hk]
    exact (hlm _ (List.getElem_mem hk)).2
  have hfb : ∀ c ∈ l.flatten, 0 ≤ c ∧ c < 256 := fun c hc => by
    obtain ⟨x, hx, hcx⟩ := List.mem_flatten.1 hc
    exact (hlm x hx).1 c hcx
  have HC := Aside0.mk hL
  have HFL := Aside0.mk hfl
  have HAP := Aside0.mk hap
  have HMX := Aside0.mk hmx
  have HFB := Aside0.mk hfb
  have HK := Aside0.mk hK
  have HKB := Aside0.mk hkB
  have HT := Aside0.mk hT
  have HLA := Aside0.mk hla
  have HKL := Aside0.mk hkb
  have l63 : l.length ≤ 9223372036854775807 := hL.2.1
  clear hL hfl hap hmx hfb hK hkB hT hlm hla hkb
  go_enter Tryd.func4, Tryd.ntmps4
  go_wp2
  go_loopw [7, 5, 6] (fun i n v wr => ∃ x s : Int, i = .int .i64 x ∧ n = .int .i64 s ∧ (0 ≤ x ∧ x ≤ l.length) ∧ (0 ≤ s ∧ s ≤ 1500) ∧ Aside0 (s = ((l.take x.toNat).flatten.length : Int) + x) ∧ Aside0 (Kd.R (Kd.int .u8) 5 wr W.heap.size (fun _ => True) v ((l.take x.toNat).flatten)) ∧ Aside0 (Below W.heap.size W wr))
    (fun i _ _ _ => l.length - (intOf i).toNat)
  case atStart => exact ⟨0, 0, rfl, rfl, ⟨by omega, by omega⟩, ⟨by omega, by omega⟩, ⟨by simp⟩, ⟨R_nil _ _⟩, ⟨Below.refl _ _⟩⟩
  case round =>
    obtain ⟨x, s, rfl, rfl, ⟨hx0, hx1⟩, ⟨hs0, hs1⟩, HS, HV, HB⟩ := hrel
    by_cases hlt : x < l.length
    · have d0 : decide (x < (l.length : Int)) = true := decide_eq_true hlt
      have xw : wrap64 (x + 1) = x + 1 := by unfold wrap64; omega
      obtain ⟨ad, A1, c1, rfl, hcell, hc1, hC1⟩ := at_L1 (Kd.C_below HC.out HB.out) x hx0 hlt
      have h1 := HFL.out x.toNat (by omega)
      have h4 := HMX.out x.toNat (by omega)
      have hap := HAP.out x.toNat (by omega)
      rw [Int.toNat_of_nonneg hx0] at h1 h4 hap
      obtain ⟨q, hq⟩ : ∃ q, q = (rd_L1 l x).length := ⟨_, rfl⟩
      rw [← hq] at hcell hc1 h1 h4
      have hs := HS.out
      obtain ⟨s2, hs2_⟩ : ∃ s2 : Int, s2 = s + 1 + q := ⟨_, rfl⟩
      have sw1 : wrap64 (s + 1) = s + 1 := by unfold wrap64; omega
      have sw2 : wrap64 (s + 1 + (q : Int)) = s2 := by rw [hs2_]; unfold wrap64; omega
      have HP := Aside0.mk hap
      have HC1 := Aside0.mk hC1
      have HQ := Aside0.mk hq
      have H1 := Aside0.mk h1
      by_cases hbig : s2 > 1500
      · have d1 : decide (s2 > 1500) = true := decide_eq_true hbig
        clear hq hap hC1 h1 h4 hs hs2_
        go_wp2
        go_ret
        exact ⟨rfl, HB.out⟩
      · have d1 : decide (s2 > 1500) = false := decide_eq_false hbig
        have hroom : ((l.take x.toNat).flatten.length + q) * 1 ≤ 140737488355328 := by omega
        have HR := Aside0.mk hroom
        have HS2 : Aside0 (s2 = ((l.take (x + 1).toNat).flatten.length : Int) + (x + 1)) := ⟨by rw [show (x + 1).toNat = x.toNat + 1 by omega]; omega⟩
        have s2b : 0 ≤ s2 ∧ s2 ≤ 1500 := ⟨by omega, by omega⟩
        clear hq hap hC1 h1 h4 hs hs2_ hroom
        go_wp2_with ((with_reducible refine gate_builtin (b := .append) (xs := #[.tmp 24, .tmp 28]) rfl ?_); at_builtin; refine Aside0.out ?_)
        refine Aside0.mk ?_
        refine Kd.R_append_row (Value.int .u8) (0 : Int) (h1 := fun _ => rfl) (w0 := W) W.heap.size rfl (.tmp 24) (.tmp 28) 22 5 (.int .u8 0) 1 rfl Tryd.underlying22 info_u8z rfl (by decide) _ _ (rd_L1 l x) A1 q c1 (fun _ => True) rfl rfl (fun _ _ => trivial) HV.out (by rw [HQ.out]; exact HC1.out) HB.out HB.out.size HR.out ?_
        intro v3 w3 hR_ hb_ _ _
        rw [← HP.out] at hR_
        have HR3 := Aside0.mk hR_
        have HB3 := Aside0.mk hb_
        clear hR_ hb_
        go_wp2
        exact ⟨⟨x + 1, s2, by first | rfl | (rw [xw]) | (simp [xw]), rfl, ⟨by omega, by omega⟩, s2b, HS2, by rw [show (x + 1).toNat = x.toNat + 1 by omega]; exact HR3, HB3⟩, by simp [intOf]; omega⟩
    · have d0 : decide (x < (l.length : Int)) = false := decide_eq_false hlt
      have hx : x = l.length := by omega
      subst hx
      have hv := HV.out
      rw [Int.toNat_natCast, List.take_length] at hv
      have hs := HS.out
      rw [Int.toNat_natCast, List.take_length] at hs
      have hfl : l.flatten.length ≤ 1500 := by omega
      have hll : l.length ≤ 1500 := by omega
      obtain ⟨A7, c7, rfl, hc7, hC7⟩ := Kd.R_reads hv
      by_cases hk : key.length > 200
      · have d2 : decide ((key.length : Int) > 200) = true := decide_eq_true (by omega)
        clear hv hs hC7 HV HS hfl hll
        go_wp2
        go_ret
        exact ⟨rfl, HB.out⟩
      have d2 : decide ((key.length : Int) > 200) = false := decide_eq_false (by omega)
      obtain ⟨X, hX⟩ : ∃ X, X = (keyedL [] l.flatten).map (Value.int .u8) := ⟨_, rfl⟩
      obtain ⟨Y, hY⟩ : ∃ Y, Y = (keyedL key l.flatten).map (Value.int .u8) := ⟨_, rfl⟩
      have heq : ∀ w, (binOp .eql 24 (.agg X.toArray) (.agg X.toArray)).run Tryd.prog w = .ok (.bool true) w := fun w => by rw [hX]; exact eq_hash _ (keyedL_bytes _ _) (keyedL_length _ _) w
      have heq2 : ∀ w, (binOp .eql 24 (.agg Y.toArray) (.agg Y.toArray)).run Tryd.prog w = .ok (.bool true) w := fun w => by rw [hY]; exact eq_hash _ (keyedL_bytes _ _) (keyedL_length _ _) w
      have HTr : Spaces wr := HT.out.below HB.out
      have HS1 : Aside0 (∀ w, Below wr.heap.size wr w → Calls Tryd.prog 11 #[.slice A l.length ca] w fun e w' => e = .returned (.agg X.toArray) ∧ Below w.heap.size w w') := ⟨fun w hb => by
        rw [hX]; exact blake_Sum.calls A ca l w (Kd.C_below (Kd.C_below HC.out HB.out) hb) HLA.out (by omega) (by omega) HFB.out (HTr.below hb)⟩
      have HS2 := Aside0.mk (fun (w : World) (g : Nat) (hb : Below wr.heap.size wr w) (hg : w.heap[g]? = some (.cells #[.slice A7 l.flatten.length c7] 22 (0, 0))) => sum_one A7 c7 l.flatten wr hC7 hc7 (by omega) HFB.out HTr w g hb hg)
      have HK1 : Aside0 (∀ w, Below wr.heap.size wr w → Calls Tryd.prog 9 #[.slice B key.length cb, .slice A l.length ca] w fun e w' => e = .returned (.agg Y.toArray) ∧ Below w.heap.size w w') := ⟨fun w hb => by
        rw [hY]; exact blake_Keyed.calls B A cb ca key l w (Kd.C_below (Kd.C_below HK.out HB.out) hb) HKL.out (Kd.C_below (Kd.C_below HC.out HB.out) hb) HLA.out (by omega) (by omega) (by omega) HKB.out HFB.out (HTr.below hb)⟩
      have HK2 := Aside0.mk (fun (w : World) (g : Nat) (hb : Below wr.heap.size wr w) (hg : w.heap[g]? = some (.cells #[.slice A7 l.flatten.length c7] 22 (0, 0))) => keyed_one B A7 cb c7 key l.flatten wr (Kd.C_below HK.out HB.out) HKL.out hC7 hc7 (by omega) (by omega) HKB.out HFB.out HTr w g hb hg)
      have HKN := Aside0.mk (fun (w : World) (hb : Below wr.heap.size wr w) => althinglaw2_known.calls w (HTr.below hb))
      rw [← hX] at HS2
      rw [← hY] at HK2
      have HBr := Aside0.mk (Below.refl wr.heap.size wr)
      obtain ⟨n7, hn7⟩ : ∃ n7, n7 = l.flatten.length := ⟨_, rfl⟩
      rw [← hn7] at HS2 HK2 ⊢
      clear hv hs hC7 HV HS hfl hll hX hY HTr hn7
      obtain ⟨wA, hwA⟩ : ∃ wA, wA = wr := ⟨_, rfl⟩
      subst hwA
      go_wp2_with (first
        | ((with_reducible refine gate_dst (N := 36) rfl ?_); refine slice_event ?hg (N := 36) ?hd (cs := #[.slice A7 n7 c7]) (t := 22) (n := 1) (c := 1) ?hr ?_; (case hd => rfl); (case hg => rfl); (case hr => first | (go_simp; done) | (go_simp; rfl)); intro g36 hg_ w2 hbox_ hb_; have B2 := Aside0.mk (below_step B1.out hb_); have BX2 := Aside0.mk hbox_; clear hg_ hbox_ hb_)
        | ((with_reducible refine gate_dst (N := 45) rfl ?_); refine gate_guard (by rfl) ?_; refine slice_event ?hg (N := 45) ?hd (cs := #[.slice A7 n7 c7]) (t := 22) (n := 1) (c := 1) ?hr ?_; (case hd => rfl); (case hg => rfl); (case hr => first | (go_simp; done) | (go_simp; rfl)); intro g45 hg_ w5 hbox_ hb_; have B5 := Aside0.mk (below_step B4.out hb_); have BX5 := Aside0.mk hbox_; clear hg_ hbox_ hb_)
        | (go_at_call 13; with_reducible refine (HKN.out _ B6.out).mono ?_; rintro e w7 ⟨rfl, hb_⟩; have B7 := Aside0.mk (below_step B6.out hb_); clear hb_)
        | (go_at_call 9; with_reducible refine (HK2.out _ g45 B5.out BX5.out).mono ?_; rintro e w6 ⟨rfl, hb_⟩; have B6 := Aside0.mk (below_step B5.out hb_); clear hb_)
        | (go_at_call 9; with_reducible refine (HK1.out _ B3.out).mono ?_; rintro e w4 ⟨rfl, hb_⟩; have B4 := Aside0.mk (below_step B3.out hb_); clear hb_)
        | (go_at_call 11; with_reducible refine (HS2.out _ g36 B2.out BX2.out).mono ?_; rintro e w3 ⟨rfl, hb_⟩; have B3 := Aside0.mk (below_step B2.out hb_); clear hb_)
        | (go_at_call 11; with_reducible refine (HS1.out _ HBr.out).mono ?_; rintro e w1 ⟨rfl, hb_⟩; have B1 := Aside0.mk (below_step HBr.out hb_); clear hb_))
      go_ret
      exact ⟨rfl, below_step HB.out B7.out⟩

set_option maxRecDepth 100000 in
theorem walks : WalksD 4 Tryd.f4 := by
  intro H enc W base args ds ps hT hval hA _ _ hsz
  rw [Tryd.params4] at hA hval
  obtain ⟨v0, v1, d0, d1, p0, p1, rfl, rfl, rfl, h0, h1⟩ := trodAll_two hA
  rw [Tryd.params4] at hsz
  obtain ⟨A0, _, c0, l, rfl, ⟨hC0, hc0⟩, rfl, hB0⟩ := open_rows (hval 0 31 v0 rfl rfl) h0 (fun n hn => by
    have := List.all_eq_true.1 hsz n (DataW.weights_mem_each (j := 0) rfl rfl n hn)
    simpa using this)
  obtain ⟨A1, _, c1, key, rfl, ⟨hC1, hc1⟩, rfl, hB1⟩ := open_bytes (hval 1 22 v1 rfl rfl) h1
  exact calls A0 A1 c0 c1 l key W hC0 hc0 hB0 hC1 hc1 hB1 hT
set_option maxRecDepth 100000 in
theorem rowed (os : Os) (started : os.Started) (H : Type) (enc : TypeId × Value → H) :
    ReturnsInHanded {} Tryd.checked os 4 .any (fun w args => (Rows.blakeRowsSpec.pre enc Tryd.prog Tryd.f4 [] false w args ∧ laidMetH Tryd.prog laidL w) ∧ sizedMet enc Tryd.prog Tryd.f4 (OpenSpec.ofChange Rows.blakeRowsSpec) false w args) (Rows.blakeRowsSpec.post enc Tryd.prog Tryd.f4 false true false false) :=
  liftedD (s := Rows.blakeRowsSpec) Tryd.func4 (by kernel_rfl) (by kernel_rfl) (by kernel_rfl) (by kernel_rfl) rfl
    (fun H ds h => by
      have h' : ds.length = 2 := h
      match ds, h' with
      | [d1, d2], _ => rfl)
    os started H enc
    (ChangeSpec.witness_shaped (enc := enc) (C := Tryd.checked) (os := os) (X := fun w _ => laidMetH Tryd.prog laidL w) false (World.laidAll Tryd.prog os laidL) #[.slice none 0 0, .slice none 0 0] 8 (World.laidAll_os _ _ _)
      (World.shaped_of_ZipB (by kernel_rfl) (by kernel_rfl)) (by kernel_rfl) (by kernel_rfl) (by kernel_rfl)
      (by rw [MakeChecks.laidMetH_plain _ _ _ (by kernel_rfl)]; exact laidMet_laidAll _ (by kernel_rfl) (by kernel_rfl))) walks
theorem over : Rows.blakeRowsRow.holds Tryd.pinned (OpenSpec.ofChange Rows.blakeRowsSpec) :=
  OpenClaim.holds_of_wide 4 Tryd.f4 rfl rfl rfl rfl rfl rfl rfl ⟨rfl, rfl, rfl, rfl, rfl⟩ rfl rfl rfl rfl rfl (by kernel_rfl) Tryd.func4 (by kernel_rfl)
    (of_decide_eq_true (by kernel_rfl)) (by unfold Func.isWrapper; first | (rw [if_pos (by decide +kernel)]; kernel_rfl) | (rw [if_neg (by decide +kernel)]; exact ⟨rfl, rfl⟩))
    (fun os started H enc _ => rowed os started H enc)
theorem card : Rows.BlakeRowsCardSaid :=
  Claim7.holds_tied_plain_at .later [] [.listed, .data] true (true, "03724181d54186f410bc65e8d38e1c8b02862d05347ad8a7a5f13c3a8643d6a9") false over (fun _ h => by cases h) (by kernel_rfl) (fun _ h => by cases h) blakeRows_row_tie rfl ⟨rfl, rfl⟩ (by kernel_rfl) rfl
    (fun f fn hf hfn => by
      obtain rfl : f = 4 := Option.some.inj ((show Tryd.prog.funcNamed "althing/althinglaw2.BlakeRows" = some 4 by kernel_rfl).symm.trans hf) |>.symm
      obtain rfl : fn = Tryd.f4 := (Option.some.inj (Tryd.func4.symm.trans hfn)).symm
      exact ⟨by kernel_rfl, fun j t ht => by
        have hm : t ∈ Tryd.f4.params.toList := by simpa using Array.mem_of_getElem? ht
        have hall : (Tryd.f4.params.toList.all fun u => !Tryd.prog.wantsStandIn u) = true := by kernel_rfl
        exact (show Tryd.prog.wantsStandIn t = false by simpa using List.all_eq_true.1 hall t hm)⟩)
    (by kernel_rfl)
end Go.Proofs.YtpcokihfecbigaaDoor.LawBlakeRows
namespace Go.Proofs.YtpcokihfecbigaaDoor
/-- The row's card, under a short name, for the claim. -/
theorem blakeRows_holds : Rows.BlakeRowsCardSaid := LawBlakeRows.card
end Go.Proofs.YtpcokihfecbigaaDoor

