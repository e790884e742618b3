/- BlakeBlocks: bytes that just fill blocks, one fewer, one more. -/
import Derived.Test.YtpcokihfecbigaaDoorFrameD
import Derived.Test.YtpcokihfecbigaaDoorBLaw
import Derived.Test.YtpcokihfecbigaaDoorRKeyed
import Derived.Test.YtpcokihfecbigaaDoorArgBytesB
import Derived.Deep.OwnRows
namespace Go.Proofs.YtpcokihfecbigaaDoor.LawBlakeBlocks
set_option linter.unusedSimpArgs false
set_option linter.unusedVariables false
open Go.ChangeShapes Go.WideShapes Go.ChangeAt Go.RowKit Go.Proofs.YtpcokihfecbigaaDoor.G Go.Proofs.YtpcokihfecbigaaDoor.Frame Go.Proofs.YtpcokihfecbigaaDoor.ArgBytesB Go.Proofs.YtpcokihfecbigaaDoorW.PrintWords Go.Proofs.YtpcokihfecbigaaDoorW.PrintLast Go.Proofs.YtpcokihfecbigaaDoorW.PrintMore

theorem below_keeps {w w' : World} (hb : Below w.heap.size w w') (g : Nat) (o : Obj) (h : w.heap[g]? = some o) : w'.heap[g]? = some o := by
  have hlt : g < w.heap.size := by
    rcases Nat.lt_or_ge g w.heap.size with h' | h'
    · exact h'
    · rw [Array.getElem?_eq_none h'] at h; cases h
  rw [hb.block g hlt]; exact h
/-- An array of bytes as a row that is read. -/
theorem C_arrB {w : World} {g : Nat} {V : List Int} (h : ArrB w g V) (hl : V.length ≤ 10000000) : Kd.C (Kd.int .u8) w (some ⟨g, 0, none⟩) V.length V :=
  ⟨rfl, by omega, fun _ => ⟨⟨g, 0, none⟩, rfl, fun j p hj => by
    refine ⟨[.int .u8 p], rfl, rfl, fun i u hu => ?_⟩
    match i, hu with
    | 0, hu =>
      obtain rfl : Value.int .u8 p = u := by simpa using hu
      have hjl : j < V.length := by
        rcases Nat.lt_or_ge j V.length with h' | h'
        · exact h'
        · rw [List.getElem?_eq_none h'] at hj; cases hj
      have := h.cell j hjl
      rw [List.getD_eq_getElem?_getD, hj] at this
      show w.cell? (Addr.add ⟨g, 0, none⟩ (j * 1 + 0)) = some (.int .u8 p)
      rw [addr_add]
      simpa using this
    | i + 1, hu => simp at hu⟩⟩
/-- One byte, laid as a row. -/
theorem C_byte {w : World} {g t : Nat} {c : Int} (hg : w.heap[g]? = some (.cells #[.int .u8 c] t (0, 0))) : Kd.C (Kd.int .u8) w (some ⟨g, 0, none⟩) [c].length [c] :=
  ⟨rfl, by simp, fun _ => ⟨⟨g, 0, none⟩, rfl, fun j p hj => by
    refine ⟨[.int .u8 p], rfl, rfl, fun i u hu => ?_⟩
    match i, hu with
    | 0, hu =>
      obtain rfl : Value.int .u8 p = u := by simpa using hu
      match j, hj with
      | 0, hj =>
        simp at hj; subst hj
        have := blk_cell hg 0
        simpa [Addr.add] using this
      | j + 1, hj => simp at hj
    | i + 1, hu => simp at hu⟩⟩
theorem made_bytes (N : Nat) : madeCells #[.int .u8 0] N = ((List.replicate N (0 : Int)).map (Value.int .u8)).toArray := by
  unfold madeCells
  apply Array.ext
  · simp
  · intro i h1 h2
    simp [Nat.mod_one]

set_option maxRecDepth 100000 in
set_option maxHeartbeats 40000000 in
theorem calls (b m c : Int) (W : World) (hc0 : 0 ≤ c ∧ c < 256) (hT : Spaces W) :
    Calls Tryd.prog 5 #[.int .i64 b, .int .i64 m, .int .u8 c] W fun e w' => e = .returned (.bool true) ∧ Below W.heap.size W w' := by
  by_cases h1 : b < 0
  · have d1 : decide (b < 0) = true := decide_eq_true h1
    go_enter Tryd.func5, Tryd.ntmps5
    go_wp2
    go_ret
    exact ⟨rfl, Below.refl _ _⟩
  have d1 : decide (b < 0) = false := decide_eq_false h1
  by_cases h2 : b > 4
  · have d2 : decide (b > 4) = true := decide_eq_true h2
    go_enter Tryd.func5, Tryd.ntmps5
    go_wp2
    go_ret
    exact ⟨rfl, Below.refl _ _⟩
  have d2 : decide (b > 4) = false := decide_eq_false h2
  by_cases h3 : m < -1
  · have d3 : decide (m < -1) = true := decide_eq_true h3
    go_enter Tryd.func5, Tryd.ntmps5
    go_wp2
    go_ret
    exact ⟨rfl, Below.refl _ _⟩
  have d3 : decide (m < -1) = false := decide_eq_false h3
  by_cases h4 : m > 1
  · have d4 : decide (m > 1) = true := decide_eq_true h4
    go_enter Tryd.func5, Tryd.ntmps5
    go_wp2
    go_ret
    exact ⟨rfl, Below.refl _ _⟩
  have d4 : decide (m > 1) = false := decide_eq_false h4
  obtain ⟨b8, hb8⟩ : ∃ v, wrap64 (128 * b) = v := ⟨_, rfl⟩
  have hb8' : b8 = 128 * b := by rw [← hb8]; unfold wrap64; omega
  obtain ⟨n, hn⟩ : ∃ v, wrap64 (b8 + m) = v := ⟨_, rfl⟩
  have hn' : n = b8 + m := by rw [← hn]; unfold wrap64; omega
  by_cases h5 : n < 0
  · have d5 : decide (n < 0) = true := decide_eq_true h5
    have hn2 : 128 * b + m < 0 := by omega
    have d6 : decide (128 * b + m < 0) = true := decide_eq_true hn2
    clear hb8' hn' hb8 hn d5 h5
    go_enter Tryd.func5, Tryd.ntmps5
    go_wp2
    go_ret
    exact ⟨rfl, Below.refl _ _⟩
  have d5 : decide (n < 0) = false := decide_eq_false h5
  obtain ⟨N, hN⟩ : ∃ N : Nat, (N : Int) = n := ⟨n.toNat, by omega⟩
  have hN513 : N ≤ 513 := by omega
  have HN := Aside0.mk hN513
  obtain ⟨Cs, hCs⟩ : ∃ Cs, Cs = ((List.replicate N (0 : Int)).map (Value.int .u8)).toArray := ⟨_, rfl⟩
  have HMK : Aside0 (∀ w, (Instr.makeSlice 22 (.int .i64 n) (.int .i64 n)).run Tryd.prog w = .ok (.slice (some ⟨w.heap.size, 0, none⟩) N N) (w.alloc (.cells Cs 5))) := ⟨fun w => by
    rw [← hN, hCs, ← made_bytes]
    exact run_make_row' 22 5 (.int .u8 0) 1 Tryd.underlying22 info_u8z rfl .i64 .i64 N (by omega) (by omega) w⟩
  have HCs := Aside0.mk hCs
  have HT := Aside0.mk hT
  clear hCs hT hb8' hn' h1 h2 h3 h4 h5 hN
  go_enter Tryd.func5, Tryd.ntmps5
  go_upto_region 4 with ((with_reducible refine gate_dst (N := 34) rfl ?_); refine slice_event ?hg (N := 34) ?hd (cs := Cs) (t := 5) (n := N) (c := N) ?hr ?_; (case hd => rfl); (case hg => rfl); (case hr => first | (simp [execOp, HMK.out, hn, hb8, go_sem]; done) | (simp [execOp, HMK.out, hn, hb8, go_sem]; rfl)); intro g hg_ w1 hbox_ hb_; have G := Aside0.mk hg_; have BX := Aside0.mk hbox_; have B1 := Aside0.mk hb_; clear hg_ hbox_ hb_)
  have bx := BX.out
  rw [HCs.out] at bx
  have aS : ArrB w1 g (List.replicate N 0) := ⟨rangeAt_box bx, by have := there_box bx; rwa [List.length_map] at this⟩
  have A1 := Aside0.mk aS
  have G0 : Aside0 (W.heap.size ≤ g) := ⟨by have := G.out; omega⟩
  clear bx aS BX
  go_wp2
  go_loopw [8] (fun i wr => ∃ x : Int, i = .int .i64 x ∧ (0 ≤ x ∧ x ≤ (N : Int)) ∧ Aside0 (∃ V, V.length = N ∧ (∀ c ∈ V, 0 ≤ c ∧ c < 256) ∧ ArrB wr g V) ∧ Aside0 (w1.grownBy wr (some g)))
    (fun i _ => N - (intOf i).toNat)
  case atStart => exact ⟨0, rfl, ⟨by omega, by omega⟩, ⟨List.replicate N 0, by simp, fun c hc => by rw [List.eq_of_mem_replicate hc]; omega, A1.out⟩, ⟨World.grownBy.refl _ _⟩⟩
  case round =>
  obtain ⟨x, rfl, ⟨hx0, hx1⟩, HV, HG⟩ := hrel
  obtain ⟨V, hVl, hVB, hVA⟩ := HV.out
  have hNN := HN.out
  by_cases hx : x < (N : Int)
  · have d6 : decide (x < (N : Int)) = true := decide_eq_true hx
    have xw : wrap64 (x + 1) = x + 1 := by unfold wrap64; omega
    obtain ⟨v1, hv1⟩ : ∃ v, IntKind.u8.wrap x = v := ⟨_, rfl⟩
    obtain ⟨v2, hv2⟩ : ∃ v, IntKind.u8.wrap (c + v1) = v := ⟨_, rfl⟩
    have hv2b : 0 ≤ v2 ∧ v2 < 256 := by
      have e : IntKind.u8.wrap (c + v1) = (c + v1) % 256 := by simp [IntKind.wrap, IntKind.signed, IntKind.bits]
      rw [← hv2, e]; omega
    have s1 := hVA.cell x.toNat (by omega)
    have s2 := hVA.frozen x.toNat (by omega)
    have n0_ := hVA.set x.toNat (by omega) v2
    have n1_ := grown_set HG.out x.toNat (.int .u8 v2)
    have N0 : Aside0 (∃ V, V.length = N ∧ (∀ c ∈ V, 0 ≤ c ∧ c < 256) ∧ ArrB (wr.setCell ⟨g, x.toNat, none⟩ (.int .u8 v2)) g V) := ⟨V.set x.toNat v2, by rw [List.length_set]; exact hVl, fun c hc => by
      rcases List.mem_or_eq_of_mem_set hc with h | h
      · exact hVB c h
      · rw [h]; exact hv2b, n0_⟩
    have N1 := Aside0.mk n1_
    clear hVA hVB hVl HV n0_ n1_ hv2b
    go_wp2
    exact ⟨⟨x + 1, by first | rfl | (rw [xw]) | (simp [xw]), ⟨by omega, by omega⟩, N0, N1⟩, by simp [intOf]; omega⟩
  · have d6 : decide (x < (N : Int)) = false := decide_eq_false hx
    obtain ⟨W1, hW1⟩ : ∃ W1, W1 = wr := ⟨_, rfl⟩
    have hP := C_arrB hVA (by omega)
    rw [hVl] at hP
    have hBW : Below W.heap.size W wr := B1.out.grown HG.out B1.out.size (fun j hj => by cases hj; exact G0.out)
    have hT := HT.out.below hBW
    have hb1 : ∀ c' ∈ [c], 0 ≤ c' ∧ c' < 256 := fun c' h => by rw [List.mem_singleton.1 h]; exact hc0
    subst hW1
    obtain ⟨X, hX⟩ : ∃ X, X = (keyedL [c] V).map (Value.int .u8) := ⟨_, rfl⟩
    obtain ⟨Y, hY⟩ : ∃ Y, Y = (keyedL [] V).map (Value.int .u8) := ⟨_, rfl⟩
    have heq : ∀ w, (binOp .eql 24 (.agg X.toArray) (.agg X.toArray)).run Tryd.prog w = .ok (.bool true) w := fun w => by rw [hX]; exact eq_hash _ (keyedL_bytes _ _) (keyedL_length _ _) w
    have heq2 : ∀ w, (binOp .eql 24 (.agg Y.toArray) (.agg Y.toArray)).run Tryd.prog w = .ok (.bool true) w := fun w => by rw [hY]; exact eq_hash _ (keyedL_bytes _ _) (keyedL_length _ _) w
    have HKD : Aside0 (∀ (w : World) (gk gl : Nat), Below W1.heap.size W1 w → w.heap[gk]? = some (.cells #[.int .u8 c] 5 (0, 0)) → w.heap[gl]? = some (.cells #[.slice (some ⟨g, 0, none⟩) N N] 22 (0, 0)) →
        Calls Tryd.prog 9 #[.slice (some ⟨gk, 0, none⟩) 1 1, .slice (some ⟨gl, 0, none⟩) 1 1] w fun e w' => e = .returned (.agg X.toArray) ∧ Below w.heap.size w w') := ⟨fun w gk gl hb hg hl => by
      have hPw := Kd.C_below hP hb
      rw [← hVl] at hl hPw
      have := blake_Keyed.calls (some ⟨gk, 0, none⟩) (some ⟨gl, 0, none⟩) 1 1 [c] [V] w (C_byte hg) (Nat.le_refl _) (C_one hPw (Nat.le_refl _) hl) (Nat.le_refl _) (by simp) (by simp) (by simp; omega) hb1 (bytes_one hVB) (hT.below hb)
      rw [hX]
      simpa using this⟩
    have HKR : Aside0 (∀ (w : World) (gk : Nat), Below W1.heap.size W1 w → w.heap[gk]? = some (.cells #[.int .u8 c] 5 (0, 0)) →
        Calls Tryd.prog 10 #[.slice (some ⟨gk, 0, none⟩) 1 1, .slice (some ⟨g, 0, none⟩) N N] w fun e w' => e = .returned (.agg X.toArray) ∧ Below w.heap.size w w') := ⟨fun w gk hb hg => by
      have hPw := Kd.C_below hP hb
      rw [← hVl] at hPw ⊢
      have := ref_Keyed.calls (some ⟨gk, 0, none⟩) (some ⟨g, 0, none⟩) 1 V.length [c] V w (C_byte hg) (Nat.le_refl _) hPw (Nat.le_refl _) (by simp) (by omega) hb1 hVB
      rw [hX]
      simpa using this⟩
    have HSM : Aside0 (∀ (w : World) (gl : Nat), Below W1.heap.size W1 w → w.heap[gl]? = some (.cells #[.slice (some ⟨g, 0, none⟩) N N] 22 (0, 0)) →
        Calls Tryd.prog 11 #[.slice (some ⟨gl, 0, none⟩) 1 1] w fun e w' => e = .returned (.agg Y.toArray) ∧ Below w.heap.size w w') := ⟨fun w gl hb hl => by
      have hPw := Kd.C_below hP hb
      rw [← hVl] at hl hPw
      have := blake_Sum.calls (some ⟨gl, 0, none⟩) 1 [V] w (C_one hPw (Nat.le_refl _) hl) (Nat.le_refl _) (by simp) (by simp; omega) (bytes_one hVB) (hT.below hb)
      rw [hY]
      simpa using this⟩
    have HSR : Aside0 (∀ (w : World), Below W1.heap.size W1 w →
        Calls Tryd.prog 12 #[.slice (some ⟨g, 0, none⟩) N N] w fun e w' => e = .returned (.agg Y.toArray) ∧ Below w.heap.size w w') := ⟨fun w hb => by
      have hPw := Kd.C_below hP hb
      rw [← hVl] at hPw ⊢
      rw [hY]
      exact ref_Sum.calls (some ⟨g, 0, none⟩) V.length V w hPw (Nat.le_refl _) (by omega) hVB⟩
    have HKN := Aside0.mk (fun (w : World) (hb : Below W1.heap.size W1 w) => althinglaw2_known.calls w (hT.below hb))
    have HBW := Aside0.mk hBW
    clear hX hY hP hT hBW hb1 hVl hVB hVA HV hx0 hx1 hx
    go_upto_region 8 with (fail)
    go_wp2_with (first
      | ((with_reducible refine gate_dst (N := 49) rfl ?_); refine slice_event ?hg (N := 49) ?hd (cs := #[.slice (some ⟨g, 0, none⟩) N N]) (t := 22) (n := 1) (c := 1) ?hr ?_; (case hd => rfl); (case hg => rfl); (case hr => first | (go_simp; done) | (go_simp; rfl)); intro gl1 hg_ wl1 hbox_ hb_; have BX49 := Aside0.mk hbox_; have L49 := Aside0.mk (blk_lt hbox_); have Bwl1 := Aside0.mk (hb_); clear hg_ hbox_ hb_)
      | (go_at_call 11; with_reducible refine (HSM.out wl1 gl1 Bwl1.out BX49.out).mono ?_; rintro e ws1 ⟨rfl, hb_⟩; have Bws1 := Aside0.mk (below_step Bwl1.out hb_); clear hb_)
      | (go_at_call 12; with_reducible refine (HSR.out ws1 Bws1.out).mono ?_; rintro e ws2 ⟨rfl, hb_⟩; have Bws2 := Aside0.mk (below_step Bws1.out hb_); clear hb_)
      | ((with_reducible refine gate_dst (N := 56) rfl ?_); refine gate_guard (by rfl) ?_; refine slice_event ?hg (N := 56) ?hd (cs := #[.int .u8 c]) (t := 5) (n := 1) (c := 1) ?hr ?_; (case hd => rfl); (case hg => rfl); (case hr => first | (go_simp; done) | (go_simp; rfl)); intro gk1 hg_ wl2 hbox_ hb_; have BX56 := Aside0.mk hbox_; have L56 := Aside0.mk (blk_lt hbox_); have Bwl2 := Aside0.mk (below_step Bws2.out hb_); clear hg_ hbox_ hb_)
      | ((with_reducible refine gate_dst (N := 58) rfl ?_); refine gate_guard (by rfl) ?_; refine slice_event ?hg (N := 58) ?hd (cs := #[.slice (some ⟨g, 0, none⟩) N N]) (t := 22) (n := 1) (c := 1) ?hr ?_; (case hd => rfl); (case hg => rfl); (case hr => first | (go_simp; done) | (go_simp; rfl)); intro gl2 hg_ wl3 hbox_ hb_; have BX58 := Aside0.mk hbox_; have L58 := Aside0.mk (blk_lt hbox_); have Bwl3 := Aside0.mk (below_step Bwl2.out hb_); have BK1 := Aside0.mk (below_keeps hb_ _ _ BX56.out); clear hg_ hbox_ hb_)
      | (go_at_call 9; with_reducible refine (HKD.out wl3 gk1 gl2 Bwl3.out BK1.out BX58.out).mono ?_; rintro e wk1 ⟨rfl, hb_⟩; have Bwk1 := Aside0.mk (below_step Bwl3.out hb_); clear hb_)
      | ((with_reducible refine gate_dst (N := 61) rfl ?_); refine gate_guard (by rfl) ?_; refine slice_event ?hg (N := 61) ?hd (cs := #[.int .u8 c]) (t := 5) (n := 1) (c := 1) ?hr ?_; (case hd => rfl); (case hg => rfl); (case hr => first | (go_simp; done) | (go_simp; rfl)); intro gk2 hg_ wl4 hbox_ hb_; have BX61 := Aside0.mk hbox_; have L61 := Aside0.mk (blk_lt hbox_); have Bwl4 := Aside0.mk (below_step Bwk1.out hb_); clear hg_ hbox_ hb_)
      | (go_at_call 10; with_reducible refine (HKR.out wl4 gk2 Bwl4.out BX61.out).mono ?_; rintro e wk2 ⟨rfl, hb_⟩; have Bwk2 := Aside0.mk (below_step Bwl4.out hb_); clear hb_)
      | (go_at_call 13; with_reducible refine (HKN.out wk2 Bwk2.out).mono ?_; rintro e wk3 ⟨rfl, hb_⟩; have Bwk3 := Aside0.mk (below_step Bwk2.out hb_); clear hb_))
    go_ret
    exact ⟨rfl, below_step HBW.out Bwk3.out⟩

set_option maxRecDepth 100000 in
theorem walks : WalksD 5 Tryd.f5 := by
  intro H enc W base args ds ps hT hval hA _ _ _
  rw [Tryd.params5] at hA hval
  obtain ⟨v0, v1, v2, d0, d1, d2, p0, p1, p2, rfl, rfl, rfl, h0, h1, h2⟩ := trodAll_three hA
  obtain ⟨x0, rfl, -, -⟩ := open_int (k := .i64) (by kernel_rfl) (hval 0 _ v0 rfl rfl) h0
  obtain ⟨x1, rfl, -, -⟩ := open_int (k := .i64) (by kernel_rfl) (hval 1 _ v1 rfl rfl) h1
  obtain ⟨x2, rfl, -, hw2⟩ := open_int (k := .u8) (by kernel_rfl) (hval 2 _ v2 rfl rfl) h2
  exact calls x0 x1 x2 W (by simp [Lit.wf, IntKind.min, IntKind.max, IntKind.signed, IntKind.bits] at hw2; omega) hT
set_option maxRecDepth 100000 in
theorem rowed (os : Os) (started : os.Started) (H : Type) (enc : TypeId × Value → H) :
    ReturnsInHanded {} Tryd.checked os 5 .any (fun w args => (Rows.blakeBlocksSpec.pre enc Tryd.prog Tryd.f5 [] false w args ∧ laidMetH Tryd.prog laidL w) ∧ sizedMet enc Tryd.prog Tryd.f5 (OpenSpec.ofChange Rows.blakeBlocksSpec) false w args) (Rows.blakeBlocksSpec.post enc Tryd.prog Tryd.f5 false true false false) :=
  liftedD (s := Rows.blakeBlocksSpec) Tryd.func5 (by kernel_rfl) (by kernel_rfl) (by kernel_rfl) (by kernel_rfl) rfl
    (fun H ds h => by
      have h' : ds.length = 3 := h
      match ds, h' with
      | [d1, d2, d3], _ => rfl)
    os started H enc
    (ChangeSpec.witness_shaped (enc := enc) (C := Tryd.checked) (os := os) (X := fun w _ => laidMetH Tryd.prog laidL w) false (World.laidAll Tryd.prog os laidL) #[.int .i64 0, .int .i64 0, .int .u8 0] 8 (World.laidAll_os _ _ _)
      (World.shaped_of_ZipB (by kernel_rfl) (by kernel_rfl)) (by kernel_rfl) (by kernel_rfl) (by kernel_rfl)
      (by rw [MakeChecks.laidMetH_plain _ _ _ (by kernel_rfl)]; exact laidMet_laidAll _ (by kernel_rfl) (by kernel_rfl))) walks
theorem over : Rows.blakeBlocksRow.holds Tryd.pinned (OpenSpec.ofChange Rows.blakeBlocksSpec) :=
  OpenClaim.holds_of_wide 5 Tryd.f5 rfl rfl rfl rfl rfl rfl rfl ⟨rfl, rfl, rfl, rfl, rfl⟩ rfl rfl rfl rfl rfl (by kernel_rfl) Tryd.func5 (by kernel_rfl)
    (of_decide_eq_true (by kernel_rfl)) (by unfold Func.isWrapper; first | (rw [if_pos (by decide +kernel)]; kernel_rfl) | (rw [if_neg (by decide +kernel)]; exact ⟨rfl, rfl⟩))
    (fun os started H enc _ => rowed os started H enc)
theorem card : Rows.BlakeBlocksCardSaid :=
  Claim7.holds_tied_plain_at .later [] [.listed, .data] true (true, "03724181d54186f410bc65e8d38e1c8b02862d05347ad8a7a5f13c3a8643d6a9") false over (fun _ h => by cases h) (by kernel_rfl) (fun _ h => by cases h) blakeBlocks_row_tie rfl ⟨rfl, rfl⟩ (by kernel_rfl) rfl
    (fun f fn hf hfn => by
      obtain rfl : f = 5 := Option.some.inj ((show Tryd.prog.funcNamed "althing/althinglaw2.BlakeBlocks" = some 5 by kernel_rfl).symm.trans hf) |>.symm
      obtain rfl : fn = Tryd.f5 := (Option.some.inj (Tryd.func5.symm.trans hfn)).symm
      exact ⟨by kernel_rfl, fun j t ht => by
        have hm : t ∈ Tryd.f5.params.toList := by simpa using Array.mem_of_getElem? ht
        have hall : (Tryd.f5.params.toList.all fun u => !Tryd.prog.wantsStandIn u) = true := by kernel_rfl
        exact (show Tryd.prog.wantsStandIn t = false by simpa using List.all_eq_true.1 hall t hm)⟩)
    (by kernel_rfl)
end Go.Proofs.YtpcokihfecbigaaDoor.LawBlakeBlocks
namespace Go.Proofs.YtpcokihfecbigaaDoor
/-- The row's card, under a short name, for the claim. -/
theorem blakeBlocks_holds : Rows.BlakeBlocksCardSaid := LawBlakeBlocks.card
end Go.Proofs.YtpcokihfecbigaaDoor

