/- BlakeHex: a digest as digits, byte by byte. -/
import Derived.Test.YtpcokihfecbigaaDoorFrameD
import Derived.Test.YtpcokihfecbigaaDoorBLaw
import Derived.Test.YtpcokihfecbigaaDoorRHex
import Derived.Test.YtpcokihfecbigaaDoorArgBytesB
namespace Go.Proofs.YtpcokihfecbigaaDoor.LawBlakeHex
set_option linter.unusedSimpArgs false
set_option linter.unusedVariables false
open Go.ChangeShapes Go.WideShapes Go.ChangeAt Go.RowKit Go.Proofs.YtpcokihfecbigaaDoor.G Go.Proofs.YtpcokihfecbigaaDoor.Frame Go.Proofs.YtpcokihfecbigaaDoor.ArgBytesB Go.Proofs.YtpcokihfecbigaaDoorW.PrintWords Go.Proofs.YtpcokihfecbigaaDoorW.PrintLast Go.Proofs.YtpcokihfecbigaaDoorW.PrintMore

theorem hexB_at : ∀ (h : List Int) (k : Nat), k < h.length → (hexB h)[2 * k]? = some (digitB (h.getD k 0 / 16)) ∧ (hexB h)[2 * k + 1]? = some (digitB (h.getD k 0 % 16))
  | [], k, hk => by simp at hk
  | c :: h, 0, _ => ⟨rfl, rfl⟩
  | c :: h, k + 1, hk => by
    have := hexB_at h k (by simpa using hk)
    have e : hexB (c :: h) = digitB (c / 16) :: digitB (c % 16) :: hexB h := rfl
    rw [e, show 2 * (k + 1) = 2 * k + 1 + 1 by omega]
    simpa using this
theorem and15i (c : Int) (h0 : 0 ≤ c) (h1 : c < 256) : Go.bits .and .i64 c 15 = c % 16 := by
  obtain ⟨k, rfl⟩ : ∃ k : Nat, c = (k : Int) := ⟨c.toNat, by omega⟩
  have : ∀ k : Fin 256, Go.bits .and .i64 (k.val : Int) 15 = (k.val : Int) % 16 := by decide +kernel
  exact this ⟨k, by omega⟩
theorem digit_val (n : Int) (h0 : 0 ≤ n) (h1 : n < 16) : ((digitB n).toNat : Int) = if n < 10 then 48 + n else 87 + n := by
  obtain ⟨k, rfl⟩ : ∃ k : Nat, n = (k : Int) := ⟨n.toNat, by omega⟩
  have : ∀ k : Fin 16, ((digitB (k.val : Int)).toNat : Int) = if (k.val : Int) < 10 then 48 + (k.val : Int) else 87 + (k.val : Int) := by decide +kernel
  exact this ⟨k, by omega⟩
theorem index_str {P : Program} {t : TypeId} (ht : P.underlying t = some .string) (L : List UInt8) (x : Int) (h0 : 0 ≤ x) (b : UInt8) (hb : L[x.toNat]? = some b) (w : World) :
    (Instr.index t (.string ⟨L.toArray⟩) (.int .i64 x)).run P w = .ok (.int .u8 (b.toNat : Int)) w := by
  have e : (⟨L.toArray⟩ : ByteArray)[x.toNat]? = some b := by
    have hlt : x.toNat < L.length := by
      rcases Nat.lt_or_ge x.toNat L.length with h | h
      · exact h
      · rw [List.getElem?_eq_none h] at hb; cases hb
    rw [getElem?_pos (⟨L.toArray⟩ : ByteArray) x.toNat (by simpa [ByteArray.size] using hlt)]
    rw [List.getElem?_eq_getElem hlt] at hb
    rw [← hb]
    rfl
  simp [Instr.index, run_underlying ht, asIntOf, h0, go_sem, e]

set_option maxRecDepth 100000 in
set_option maxHeartbeats 8000000 in
theorem calls (h : List Int) (W : World) (hl : h.length = 32) (hb : ∀ c ∈ h, 0 ≤ c ∧ c < 256) (hT : Spaces W) :
    Calls Tryd.prog 7 #[.agg (h.map (Value.int .u8)).toArray] W fun e w' => e = .returned (.bool true) ∧ Below W.heap.size W w' := by
  obtain ⟨X, hX⟩ : ∃ X, X = h.map (Value.int .u8) := ⟨_, rfl⟩
  have hXl : X.length = 32 := by rw [hX, List.length_map, hl]
  obtain ⟨SH, hSH⟩ : ∃ S : ByteArray, S = ⟨(hexB h).toArray⟩ := ⟨_, rfl⟩
  have hsz : SH.size = 64 := by rw [hSH]; show (hexB h).toArray.size = 64; simp [hexB_length, hl]
  have HP := Aside0.mk (fun (w : World) => blake_Hex.calls h w hl hb)
  have HR := Aside0.mk (fun (w : World) => ref_Hex.calls h w hl hb)
  have HI := Aside0.mk (fun (x : Int) (h0 : 0 ≤ x) (b : UInt8) (hb : (hexB h)[x.toNat]? = some b) (w : World) => index_str (P := Tryd.prog) (t := 9) Tryd.underlying9 (hexB h) x h0 b hb w)
  rw [← hX, ← hSH] at HP HR
  rw [← hSH] at HI
  rw [← hX]
  have HKN := Aside0.mk (fun (w : World) (hb : Below W.heap.size W w) => althinglaw2_known.calls w (hT.below hb))
  have HX := Aside0.mk hX
  have HXl := Aside0.mk hXl
  have Hb := Aside0.mk hb
  have Hl := Aside0.mk hl
  have hsi : (SH.size : Int) = 64 := by rw [hsz]; rfl
  clear hX hXl hSH hb hl hT
  go_enter Tryd.func7, Tryd.ntmps7
  go_upto_region 1 with ((with_reducible refine gate_dst (N := 1) rfl ?_); refine box_event ?hg (N := 1) ?hd (cs := X.toArray) (t := 24) ?hr ?_; (case hd => rfl); (case hg => rfl); (case hr => first | (go_simp; done) | (go_simp; rfl)); intro g1 hg_ w1 hbox_ hb_; have G1 := Aside0.mk hg_; have R1 := Aside0.mk (rangeAt_box hbox_); have B1 := Aside0.mk hb_; have LT1 := Aside0.mk (blk_lt hbox_); clear hg_ hbox_ hb_)
  go_upto_region 4 with (first
    | ((with_reducible refine gate_dst (N := 7) rfl ?_); refine wpList_load_mid rfl 24 _ rfl g1 0 rfl X _ R1.out Tryd.underlying24 rfl (by rw [HXl.out]; exact size_of info_a32) ?_)
    | ((with_reducible refine gate_dst (N := 14) rfl ?_); refine gate_guard (by rfl) ?_; refine wpList_load_mid rfl 24 _ rfl g1 0 rfl X _ R2.out Tryd.underlying24 rfl (by rw [HXl.out]; exact size_of info_a32) ?_)
    | (go_at_call 14; with_reducible refine (HP.out w1).mono ?_; rintro e w2 ⟨rfl, hb_⟩; have R2 := Aside0.mk (rangeAt_below R1.out hb_ LT1.out); have B2 := Aside0.mk (below_step B1.out hb_); have LT2 := Aside0.mk (Nat.lt_of_lt_of_le LT1.out hb_.size); clear hb_)
    | (go_at_call 15; with_reducible refine (HR.out w2).mono ?_; rintro e w3 ⟨rfl, hb_⟩; have R3 := Aside0.mk (rangeAt_below R2.out hb_ LT2.out); have B3 := Aside0.mk (below_step B2.out hb_); clear hb_))
  go_wp2
  go_loopw [4] (fun i wr => ∃ x : Int, i = .int .i64 x ∧ (0 ≤ x ∧ x ≤ 64) ∧ wr = w3)
    (fun i _ => 64 - (intOf i).toNat)
  case atStart => exact ⟨0, rfl, ⟨by omega, by omega⟩, rfl⟩
  case round =>
  obtain ⟨x, rfl, ⟨hx0, hx1⟩, rfl⟩ := hrel
  by_cases hx : x < 64
  · have d1 : decide (x < 64) = true := decide_eq_true hx
    have xw : wrap64 (x + 1) = x + 1 := by unfold wrap64; omega
    obtain ⟨y, hy⟩ : ∃ y, x.tdiv 2 = y := ⟨_, rfl⟩
    obtain ⟨z, hz⟩ : ∃ z, x.tmod 2 = z := ⟨_, rfl⟩
    have hy' : y = x / 2 := by rw [← hy, Int.tdiv_eq_ediv_of_nonneg hx0]
    have hz' : z = x % 2 := by rw [← hz, Int.tmod_eq_emod_of_nonneg hx0]
    have y0 : 0 ≤ y := by omega
    have y1 : y < 32 := by omega
    have yw : wrap64 y = y := by unfold wrap64; omega
    have zw : wrap64 z = z := by unfold wrap64; omega
    have hk : y.toNat < h.length := by rw [Hl.out]; omega
    obtain ⟨c, hc⟩ : ∃ c, c = h.getD y.toNat 0 := ⟨_, rfl⟩
    have hcell : wr.cell? ⟨g1, y.toNat, none⟩ = some (.int .u8 c) := by
      have := R3.out y.toNat (.int .u8 c) (by
        rw [HX.out, hc, List.getElem?_map, List.getElem?_eq_getElem hk, List.getD_eq_getElem?_getD, List.getElem?_eq_getElem hk]; rfl)
      rwa [Nat.zero_add] at this
    have hcb : 0 ≤ c ∧ c < 256 := by
      rw [hc, List.getD_eq_getElem?_getD, List.getElem?_eq_getElem hk]
      exact Hb.out _ (List.getElem_mem hk)
    have hat := hexB_at h y.toNat hk
    rw [← hc] at hat
    have cw : IntKind.i64.wrap c = c := IntWalk.i64_in _ (by omega)
    obtain ⟨hi, hhi⟩ : ∃ v, c / 16 = v := ⟨_, rfl⟩
    obtain ⟨lo, hlo⟩ : ∃ v, c % 16 = v := ⟨_, rfl⟩
    have hi0 : 0 ≤ hi ∧ hi < 16 := by omega
    have lo0 : 0 ≤ lo ∧ lo < 16 := by omega
    have ahi : Go.bits .and .i64 hi 15 = hi := (and15i hi (by omega) (by omega)).trans (by omega)
    have alo : Go.bits .and .i64 c 15 = lo := (and15i c hcb.1 hcb.2).trans hlo
    rw [hhi, hlo] at hat
    have vhi := digit_val hi hi0.1 hi0.2
    have vlo := digit_val lo lo0.1 lo0.2
    by_cases hz0 : z = 0
    · have dz : decide (z = 0) = true := decide_eq_true hz0
      have hix := HI.out x hx0 (digitB hi) (by rw [show x.toNat = 2 * y.toNat by omega]; exact hat.1)
      obtain ⟨u, hu⟩ : ∃ u, ((digitB hi).toNat : Int) = u := ⟨_, rfl⟩
      rw [hu] at hix vhi
      rw [hy'] at hcell
      have dz2 : decide (x % 2 = 0) = true := decide_eq_true (by omega)
      have dz3 : x % 2 = 0 := by omega
      by_cases h9 : hi > 9
      · have d9 : decide (hi > 9) = true := decide_eq_true h9
        rw [if_neg (by omega)] at vhi
        clear hat vlo hc hk hu hlo alo
        go_wp2
        exact ⟨⟨x + 1, rfl, ⟨by omega, by omega⟩, trivial⟩, by simp [intOf]; omega⟩
      · have d9 : decide (hi > 9) = false := decide_eq_false h9
        rw [if_pos (by omega)] at vhi
        clear hat vlo hc hk hu hlo alo
        go_wp2
        exact ⟨⟨x + 1, rfl, ⟨by omega, by omega⟩, trivial⟩, by simp [intOf]; omega⟩
    · have dz : decide (z = 0) = false := decide_eq_false hz0
      have hix := HI.out x hx0 (digitB lo) (by rw [show x.toNat = 2 * y.toNat + 1 by omega]; exact hat.2)
      obtain ⟨u, hu⟩ : ∃ u, ((digitB lo).toNat : Int) = u := ⟨_, rfl⟩
      rw [hu] at hix vlo
      rw [hy'] at hcell
      have dz2 : decide (x % 2 = 0) = false := decide_eq_false (by omega)
      have dz3 : x % 2 = 1 := by omega
      by_cases h9 : lo > 9
      · have d9 : decide (lo > 9) = true := decide_eq_true h9
        rw [if_neg (by omega)] at vlo
        clear hat vhi hc hk hu hhi ahi
        go_wp2
        exact ⟨⟨x + 1, rfl, ⟨by omega, by omega⟩, trivial⟩, by simp [intOf]; omega⟩
      · have d9 : decide (lo > 9) = false := decide_eq_false h9
        rw [if_pos (by omega)] at vlo
        clear hat vhi hc hk hu hhi ahi
        go_wp2
        exact ⟨⟨x + 1, rfl, ⟨by omega, by omega⟩, trivial⟩, by simp [intOf]; omega⟩
  · have d1 : decide (x < 64) = false := decide_eq_false hx
    go_wp2_with (go_at_call 13; with_reducible refine (HKN.out _ B3.out).mono ?_; rintro e w4 ⟨rfl, hb_⟩; have B4 := Aside0.mk (below_step B3.out hb_); clear hb_)
    go_ret
    exact ⟨rfl, B4.out⟩
theorem open_hash {H : Type} {enc : TypeId × Value → H} {W : World} {b0 : Nat} {v : Value} {d : DataW H} {p : List MemPlace} (hv : Value.okWide Tryd.prog W .any b0 24 v) (h : DataW.Trod enc Tryd.prog W 0 (fun _ => true) true 24 v d p) :
    ∃ l : List Int, v = .agg (l.map (Value.int .u8)).toArray ∧ l.length = 32 ∧ ∀ c ∈ l, 0 ≤ c ∧ c < 256 := by
  have hv' := hv
  simp only [Value.okWide, Tryd.underlying24] at hv'
  obtain ⟨cs, rfl, _, _⟩ := hv'
  obtain ⟨fuel, hf⟩ := h
  obtain ⟨xs, m, _, ex, hcl, hl, hel⟩ := DataW.trod_array Tryd.underlying24 hf
  have c5 : Tryd.prog.cellsOf 5 = 1 := by kernel_rfl
  have c32 : Tryd.prog.cellsOf 24 = 32 := by kernel_rfl
  rw [c32] at hcl
  have hcl' : cs.toList.length = 32 := hcl
  have hE : ∀ i, i < 32 → ∃ z, cs.toList[i]? = some (.int .u8 z) ∧ 0 ≤ z ∧ z < 256 := fun i hi => by
    have hE := hel i hi
    rw [c5, Nat.mul_one, List.getElem?_eq_getElem (by omega)] at hE
    obtain ⟨z, e1, _, hw⟩ := DataW.trod_int Tryd.underlying5 hE
    refine ⟨z, ?_, ?_⟩
    · have h0 : ((cs.toList.drop i).take 1)[0]? = some (.int .u8 z) := by
        have : (Value.agg cs).cells.toList = cs.toList := rfl
        rw [this] at e1
        rw [e1]; rfl
      simpa using h0
    · simp [Lit.wf, IntKind.min, IntKind.max, IntKind.signed, IntKind.bits] at hw
      omega
  obtain ⟨l, hll, hp⟩ := list_of (P := fun i (z : Int) => cs.toList[i]? = some (.int .u8 z) ∧ 0 ≤ z ∧ z < 256) 32 hE
  refine ⟨l, ?_, hll, fun c hc => ?_⟩
  · have : cs.toList = l.map (Value.int .u8) := by
      refine List.ext_getElem? fun i => ?_
      by_cases hi : i < 32
      · have hlt : i < l.length := by omega
        rw [(hp i l[i] (List.getElem?_eq_getElem hlt)).1, List.getElem?_map, List.getElem?_eq_getElem hlt]; rfl
      · rw [List.getElem?_eq_none (by omega), List.getElem?_eq_none (by rw [List.length_map]; omega)]
    rw [← this]
  · obtain ⟨i, hi, rfl⟩ := List.getElem_of_mem hc
    exact (hp i _ (List.getElem?_eq_getElem hi)).2

set_option maxRecDepth 100000 in
theorem walks : WalksD 7 Tryd.f7 := by
  intro H enc W base args ds ps hT hval hA _ _ _
  rw [Tryd.params7] at hA hval
  obtain ⟨v0, d0, rfl, rfl, h0⟩ := trodAll_one hA
  obtain ⟨l, rfl, hl, hb⟩ := open_hash (hval 0 24 v0 rfl rfl) h0
  exact calls l W hl hb hT
set_option maxRecDepth 100000 in
theorem rowed (os : Os) (started : os.Started) (H : Type) (enc : TypeId × Value → H) :
    ReturnsInHanded {} Tryd.checked os 7 .any (fun w args => (Rows.blakeHexSpec.pre enc Tryd.prog Tryd.f7 [] false w args ∧ laidMetH Tryd.prog laidL w) ∧ sizedMet enc Tryd.prog Tryd.f7 (OpenSpec.ofChange Rows.blakeHexSpec) false w args) (Rows.blakeHexSpec.post enc Tryd.prog Tryd.f7 false true false false) :=
  liftedD (s := Rows.blakeHexSpec) Tryd.func7 (by kernel_rfl) (by kernel_rfl) (by kernel_rfl) (by kernel_rfl) rfl
    (fun H ds h => by
      have h' : ds.length = 1 := h
      match ds, h' with
      | [d1], _ => rfl)
    os started H enc
    (ChangeSpec.witness_shaped (enc := enc) (C := Tryd.checked) (os := os) (X := fun w _ => laidMetH Tryd.prog laidL w) false (World.laidAll Tryd.prog os laidL) #[.agg (List.replicate 32 (Value.int .u8 0)).toArray] 8 (World.laidAll_os _ _ _)
      (World.shaped_of_ZipB (by kernel_rfl) (by kernel_rfl)) (by kernel_rfl) (by kernel_rfl) (by kernel_rfl)
      (by rw [MakeChecks.laidMetH_plain _ _ _ (by kernel_rfl)]; exact laidMet_laidAll _ (by kernel_rfl) (by kernel_rfl))) walks
theorem over : Rows.blakeHexRow.holds Tryd.pinned (OpenSpec.ofChange Rows.blakeHexSpec) :=
  OpenClaim.holds_of_wide 7 Tryd.f7 rfl rfl rfl rfl rfl rfl rfl ⟨rfl, rfl, rfl, rfl, rfl⟩ rfl rfl rfl rfl rfl (by kernel_rfl) Tryd.func7 (by kernel_rfl)
    (of_decide_eq_true (by kernel_rfl)) (by unfold Func.isWrapper; first | (rw [if_pos (by decide +kernel)]; kernel_rfl) | (rw [if_neg (by decide +kernel)]; exact ⟨rfl, rfl⟩))
    (fun os started H enc _ => rowed os started H enc)
theorem card : Rows.BlakeHexCardSaid :=
  Claim7.holds_tied_plain_at .later [] [.listed, .data] true (true, "03724181d54186f410bc65e8d38e1c8b02862d05347ad8a7a5f13c3a8643d6a9") false over (fun _ h => by cases h) (by kernel_rfl) (fun _ h => by cases h) blakeHex_row_tie rfl ⟨rfl, rfl⟩ (by kernel_rfl) rfl
    (fun f fn hf hfn => by
      obtain rfl : f = 7 := Option.some.inj ((show Tryd.prog.funcNamed "althing/althinglaw2.BlakeHex" = some 7 by kernel_rfl).symm.trans hf) |>.symm
      obtain rfl : fn = Tryd.f7 := (Option.some.inj (Tryd.func7.symm.trans hfn)).symm
      exact ⟨by kernel_rfl, fun j t ht => by
        have hm : t ∈ Tryd.f7.params.toList := by simpa using Array.mem_of_getElem? ht
        have hall : (Tryd.f7.params.toList.all fun u => !Tryd.prog.wantsStandIn u) = true := by kernel_rfl
        exact (show Tryd.prog.wantsStandIn t = false by simpa using List.all_eq_true.1 hall t hm)⟩)
    (by kernel_rfl)
end Go.Proofs.YtpcokihfecbigaaDoor.LawBlakeHex
namespace Go.Proofs.YtpcokihfecbigaaDoor
/-- The row's card, under a short name, for the claim. -/
theorem blakeHex_holds : Rows.BlakeHexCardSaid := LawBlakeHex.card
end Go.Proofs.YtpcokihfecbigaaDoor

