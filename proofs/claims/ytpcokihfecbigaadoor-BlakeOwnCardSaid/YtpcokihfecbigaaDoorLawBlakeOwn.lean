/- BlakeOwn: what is handed in is neither changed nor kept. -/
import Derived.Test.YtpcokihfecbigaaDoorFrameD
import Derived.Test.YtpcokihfecbigaaDoorBLaw
import Derived.Test.YtpcokihfecbigaaDoorArgBytesB
namespace Go.Proofs.YtpcokihfecbigaaDoor.LawBlakeOwn
set_option linter.unusedSimpArgs false
set_option linter.unusedVariables false
open Go.ChangeShapes Go.WideShapes Go.ChangeAt Go.RowKit Go.Proofs.YtpcokihfecbigaaDoor.G Go.Proofs.YtpcokihfecbigaaDoor.Frame Go.Proofs.YtpcokihfecbigaaDoor.ArgBytesB Go.Proofs.YtpcokihfecbigaaDoorW.PrintWords Go.Proofs.YtpcokihfecbigaaDoorW.PrintLast Go.Proofs.YtpcokihfecbigaaDoorW.PrintMore

theorem rangeAt_lt {w : World} {g : Nat} {L : List Value} (h : w.rangeAt g 0 L) (h0 : 0 < L.length) : g < w.heap.size := World.block_lt_of_cell? w _ (h 0 L[0] (List.getElem?_eq_getElem h0))

set_option maxRecDepth 100000 in
set_option maxHeartbeats 4000000 in
theorem calls (A B : Option Addr) (ca cb : Nat) (key p : List Int) (W : World) (hK : Kd.C (Kd.int .u8) W A key.length key) (hka : key.length ≤ ca) (hP : Kd.C (Kd.int .u8) W B p.length p) (hpb : p.length ≤ cb)
    (hkb : ∀ c ∈ key, 0 ≤ c ∧ c < 256) (hpB : ∀ c ∈ p, 0 ≤ c ∧ c < 256) (hT : Spaces W) :
    Calls Tryd.prog 8 #[.slice A key.length ca, .slice B p.length cb] W fun e w' => e = .returned (.bool true) ∧ Below W.heap.size W w' := by
  by_cases h1 : key.length > 200
  · have d1 : decide ((key.length : Int) > 200) = true := decide_eq_true (by omega)
    clear hK hP hkb hpB hT
    go_enter Tryd.func8, Tryd.ntmps8
    go_wp2
    go_ret
    exact ⟨rfl, Below.refl _ _⟩
  have d1 : decide ((key.length : Int) > 200) = false := decide_eq_false (by omega)
  by_cases h2 : p.length > 500
  · have d2 : decide ((p.length : Int) > 500) = true := decide_eq_true (by omega)
    clear hK hP hkb hpB hT
    go_enter Tryd.func8, Tryd.ntmps8
    go_wp2
    go_ret
    exact ⟨rfl, Below.refl _ _⟩
  have d2 : decide ((p.length : Int) > 500) = false := decide_eq_false (by omega)
  obtain ⟨Z, hZ⟩ : ∃ Z, Z = zero32.map (Value.int .u8) := ⟨_, rfl⟩
  have hZl : Z.length = 32 := by rw [hZ]; rfl
  have HAL : Aside0 (∀ w, (zeroValue 24).run Tryd.prog w = .ok (.agg Z.toArray) w) := ⟨fun w => by rw [hZ]; exact zero_run info_a32 w⟩
  obtain ⟨X, hX⟩ : ∃ X, X = (keyedL key p).map (Value.int .u8) := ⟨_, rfl⟩
  have hXl : X.length = 32 := by rw [hX, List.length_map, keyedL_length]
  have hXo : ∀ v ∈ X, v.oneCell' = true := by rw [hX]; exact one_of_map _
  have HEQ : Aside0 (∀ w, (binOp .eql 24 (.agg X.toArray) (.agg X.toArray)).run Tryd.prog w = .ok (.bool true) w) := ⟨fun w => by rw [hX]; exact eq_hash _ (keyedL_bytes _ _) (keyedL_length _ _) w⟩
  have HKD := Aside0.mk (fun (w : World) (g : Nat) (hb : Below W.heap.size W w) (hg : w.heap[g]? = some (.cells #[.slice B p.length cb] 22 (0, 0))) => keyed_one A B ca cb key p W hK hka hP hpb (by omega) (by omega) hkb hpB hT w g hb hg)
  rw [← hX] at HKD
  obtain ⟨sk, hsk⟩ : ∃ s, s = strOfNums key := ⟨_, rfl⟩
  obtain ⟨sp, hsp⟩ : ∃ s, s = strOfNums p := ⟨_, rfl⟩
  have HCK : Aside0 (∀ w, Below W.heap.size W w → (convert 22 9 (.slice A key.length ca)).run Tryd.prog w = .ok (.string sk) w) := ⟨fun w hb => by rw [hsk]; exact Kd.C_string Tryd.underlying22 Tryd.underlying5 Tryd.underlying9 (Kd.C_below hK hb)⟩
  have HCP : Aside0 (∀ w, Below W.heap.size W w → (convert 22 9 (.slice B p.length cb)).run Tryd.prog w = .ok (.string sp) w) := ⟨fun w hb => by rw [hsp]; exact Kd.C_string Tryd.underlying22 Tryd.underlying5 Tryd.underlying9 (Kd.C_below hP hb)⟩
  have HKN := Aside0.mk (fun (w : World) (hb : Below W.heap.size W w) => althinglaw2_known.calls w (hT.below hb))
  have HZl := Aside0.mk hZl
  have HXl := Aside0.mk hXl
  have HXo := Aside0.mk hXo
  clear hZ hZl hX hXl hXo hsk hsp hK hP hkb hpB hT hka hpb h1 h2
  go_enter Tryd.func8, Tryd.ntmps8
  go_upto_region 3 with (fail)
  go_region_held3 (fun w' => (convert 22 9 (.slice A key.length ca)).run Tryd.prog w' = .ok (.string sk) w' ∧ (convert 22 9 (.slice B p.length cb)).run Tryd.prog w' = .ok (.string sp) w') (exact ⟨HCK.out _ (Below.drew (Below.refl _ _)), HCP.out _ (Below.drew (Below.refl _ _))⟩) (fail)
  obtain ⟨W3, hW3⟩ : ∃ w, w = W.drew := ⟨_, rfl⟩
  rw [← hW3]
  have B3 : Aside0 (Below W.heap.size W W3) := ⟨by rw [hW3]; exact Below.drew (Below.refl _ _)⟩
  clear hW3
  go_upto_region 5 with (first
    | ((with_reducible refine gate_dst (N := 23) rfl ?_); refine slice_event ?hg (N := 23) ?hd (cs := #[.slice B p.length cb]) (t := 22) (n := 1) (c := 1) ?hr ?_; (case hd => rfl); (case hg => rfl); (case hr => first | (go_simp; done) | (go_simp; rfl)); intro gl4 hg_ wl4 hbox_ hb_; have Bl4 := Aside0.mk hb_; have BX4 := Aside0.mk hbox_; clear hg_ hbox_ hb_)
    | (go_at_call 9; with_reducible refine (HKD.out wl4 gl4 (below_step B3.out Bl4.out) BX4.out).mono ?_; rintro e wk4 ⟨rfl, hb_⟩; have Bk4 := Aside0.mk (below_step Bl4.out hb_); clear hb_)
    | ((with_reducible refine gate_dst (N := 7) rfl ?_); refine box_event ?hg (N := 7) ?hd (cs := Z.toArray) (t := 24) ?hr ?_; (case hd => rfl); (case hg => rfl); (case hr => first | (simp [execOp, Instr.alloc, HAL.out, newVar, newRow, go_sem]; done) | (simp [execOp, Instr.alloc, HAL.out, newVar, newRow, go_sem]; rfl)); intro g7 hg_ wb4 hbox_ hb_; have G7 := Aside0.mk hg_; have T7 := Aside0.mk (there_box hbox_); have Bb4 := Aside0.mk (below_step Bk4.out hb_); clear hg_ hbox_ hb_)
    | ((with_reducible refine gate_store (t := 24) (p := 7) rfl ?_); refine wpList_store_mid rfl 24 _ _ rfl g7 0 X.toArray rfl rfl (by rw [List.size_toArray, HXl.out, ← HZl.out]; exact T7.out) (by rw [List.size_toArray, HXl.out]; exact size_of info_a32) (all_oneCell_toArray HXo.out) ?_))
  have n0_ := World.rangeAt_setCells_same wb4 g7 0 X (by rw [HXl.out, ← HZl.out]; exact T7.out)
  have n1_ := below_setCells g7 (by have := G7.out; have := Bk4.out.size; omega) X 0 wb4 Bb4.out
  generalize World.setCells _ _ _ _ = W4 at n0_ n1_ ⊢
  have R7 := Aside0.mk n0_
  have L7 := Aside0.mk (rangeAt_lt n0_ (by rw [HXl.out]; decide))
  have C4 := Aside0.mk n1_
  have B4 := Aside0.mk (below_step B3.out n1_)
  clear n0_ n1_ T7 G7 Bb4
  go_upto_region 6 with (first
    | ((with_reducible refine gate_dst (N := 27) rfl ?_); refine slice_event ?hg (N := 27) ?hd (cs := #[.slice B p.length cb]) (t := 22) (n := 1) (c := 1) ?hr ?_; (case hd => rfl); (case hg => rfl); (case hr => first | (go_simp; done) | (go_simp; rfl)); intro gl5 hg_ wl5 hbox_ hb_; have Bl5 := Aside0.mk hb_; have BX5 := Aside0.mk hbox_; clear hg_ hbox_ hb_)
    | (go_at_call 9; with_reducible refine (HKD.out wl5 gl5 (below_step B4.out Bl5.out) BX5.out).mono ?_; rintro e wk5 ⟨rfl, hb_⟩; have Bk5 := Aside0.mk (below_step Bl5.out hb_); clear hb_)
    | ((with_reducible refine gate_dst (N := 8) rfl ?_); refine box_event ?hg (N := 8) ?hd (cs := Z.toArray) (t := 24) ?hr ?_; (case hd => rfl); (case hg => rfl); (case hr => first | (simp [execOp, Instr.alloc, HAL.out, newVar, newRow, go_sem]; done) | (simp [execOp, Instr.alloc, HAL.out, newVar, newRow, go_sem]; rfl)); intro g8 hg_ wb5 hbox_ hb_; have G8 := Aside0.mk hg_; have T8 := Aside0.mk (there_box hbox_); have Bb5 := Aside0.mk (below_step Bk5.out hb_); clear hg_ hbox_ hb_)
    | ((with_reducible refine gate_store (t := 24) (p := 8) rfl ?_); refine wpList_store_mid rfl 24 _ _ rfl g8 0 X.toArray rfl rfl (by rw [List.size_toArray, HXl.out, ← HZl.out]; exact T8.out) (by rw [List.size_toArray, HXl.out]; exact size_of info_a32) (all_oneCell_toArray HXo.out) ?_))
  have n0_ := World.rangeAt_setCells_same wb5 g8 0 X (by rw [HXl.out, ← HZl.out]; exact T8.out)
  have n1_ := below_setCells g8 (by have := G8.out; have := Bk5.out.size; omega) X 0 wb5 Bb5.out
  generalize World.setCells _ _ _ _ = W5 at n0_ n1_ ⊢
  have R8 := Aside0.mk n0_
  have L8 := Aside0.mk (rangeAt_lt n0_ (by rw [HXl.out]; decide))
  have C5 := Aside0.mk n1_
  have B5 := Aside0.mk (below_step B4.out n1_)
  clear n0_ n1_ T8 G8 Bb5
  have R75 := Aside0.mk (rangeAt_below R7.out C5.out L7.out)
  have hck := HCK.out W5 B5.out
  have hcp := HCP.out W5 B5.out
  have heq := HEQ.out
  clear R7 C4 C5
  go_wp2_with (first
    | ((with_reducible refine gate_dst (N := 40) rfl ?_); refine gate_guard (by rfl) ?_; refine wpList_load_mid rfl 24 _ rfl g7 0 rfl X _ R75.out Tryd.underlying24 rfl (by rw [HXl.out]; exact size_of info_a32) ?_)
    | ((with_reducible refine gate_dst (N := 41) rfl ?_); refine gate_guard (by rfl) ?_; refine wpList_load_mid rfl 24 _ rfl g8 0 rfl X _ R8.out Tryd.underlying24 rfl (by rw [HXl.out]; exact size_of info_a32) ?_)
    | (go_at_call 13; with_reducible refine (HKN.out W5 B5.out).mono ?_; rintro e W6 ⟨rfl, hb_⟩; have B6 := Aside0.mk (below_step B5.out hb_); clear hb_))
  go_ret
  exact ⟨rfl, B6.out⟩

set_option maxRecDepth 100000 in
theorem walks : WalksD 8 Tryd.f8 := by
  intro H enc W base args ds ps hT hval hA _ _
  rw [Tryd.params8] at hA hval
  obtain ⟨v0, v1, d0, d1, p0, p1, rfl, rfl, rfl, h0, h1⟩ := trodAll_two hA
  obtain ⟨A0, _, c0, key, rfl, ⟨hC0, hc0⟩, rfl, hB0⟩ := open_bytes (hval 0 22 v0 rfl rfl) h0
  obtain ⟨A1, _, c1, p, rfl, ⟨hC1, hc1⟩, rfl, hB1⟩ := open_bytes (hval 1 22 v1 rfl rfl) h1
  exact calls A0 A1 c0 c1 key p W hC0 hc0 hC1 hc1 hB0 hB1 hT
set_option maxRecDepth 100000 in
theorem rowed (os : Os) (started : os.Started) (H : Type) (enc : TypeId × Value → H) :
    ReturnsInHanded {} Tryd.checked os 8 .any (fun w args => (Rows.blakeOwnSpec.pre enc Tryd.prog Tryd.f8 [] false w args ∧ laidMetH Tryd.prog laidL w) ∧ sizedMet enc Tryd.prog Tryd.f8 (OpenSpec.ofChange Rows.blakeOwnSpec) false w args) (Rows.blakeOwnSpec.post enc Tryd.prog Tryd.f8 false true false false) :=
  liftedD (s := Rows.blakeOwnSpec) Tryd.func8 (by kernel_rfl) (by kernel_rfl) (by kernel_rfl) (by kernel_rfl) rfl
    (fun H ds h => by
      have h' : ds.length = 2 := h
      match ds, h' with
      | [d1, d2], _ => rfl)
    os started H enc
    (ChangeSpec.witness_shaped (enc := enc) (C := Tryd.checked) (os := os) (X := fun w _ => laidMetH Tryd.prog laidL w) false (World.laidAll Tryd.prog os laidL) #[.slice none 0 0, .slice none 0 0] 8 (World.laidAll_os _ _ _)
      (World.shaped_of_ZipB (by kernel_rfl) (by kernel_rfl)) (by kernel_rfl) (by kernel_rfl) (by kernel_rfl)
      (by rw [MakeChecks.laidMetH_plain _ _ _ (by kernel_rfl)]; exact laidMet_laidAll _ (by kernel_rfl) (by kernel_rfl))) walks
theorem over : Rows.blakeOwnRow.holds Tryd.pinned (OpenSpec.ofChange Rows.blakeOwnSpec) :=
  OpenClaim.holds_of_wide 8 Tryd.f8 rfl rfl rfl rfl rfl rfl rfl ⟨rfl, rfl, rfl, rfl, rfl⟩ rfl rfl rfl rfl rfl (by kernel_rfl) Tryd.func8 (by kernel_rfl)
    (of_decide_eq_true (by kernel_rfl)) (by unfold Func.isWrapper; first | (rw [if_pos (by decide +kernel)]; kernel_rfl) | (rw [if_neg (by decide +kernel)]; exact ⟨rfl, rfl⟩))
    (fun os started H enc _ => rowed os started H enc)
theorem card : Rows.BlakeOwnCardSaid :=
  Claim7.holds_tied_plain_at .later [] [.listed, .data] true (true, "03724181d54186f410bc65e8d38e1c8b02862d05347ad8a7a5f13c3a8643d6a9") false over (fun _ h => by cases h) (by kernel_rfl) (fun _ h => by cases h) blakeOwn_row_tie rfl ⟨rfl, rfl⟩ (by kernel_rfl) rfl
    (fun f fn hf hfn => by
      obtain rfl : f = 8 := Option.some.inj ((show Tryd.prog.funcNamed "althing/althinglaw2.BlakeOwn" = some 8 by kernel_rfl).symm.trans hf) |>.symm
      obtain rfl : fn = Tryd.f8 := (Option.some.inj (Tryd.func8.symm.trans hfn)).symm
      exact ⟨by kernel_rfl, fun j t ht => by
        have hm : t ∈ Tryd.f8.params.toList := by simpa using Array.mem_of_getElem? ht
        have hall : (Tryd.f8.params.toList.all fun u => !Tryd.prog.wantsStandIn u) = true := by kernel_rfl
        exact (show Tryd.prog.wantsStandIn t = false by simpa using List.all_eq_true.1 hall t hm)⟩)
    (by kernel_rfl)
end Go.Proofs.YtpcokihfecbigaaDoor.LawBlakeOwn
namespace Go.Proofs.YtpcokihfecbigaaDoor
/-- The row's card, under a short name, for the claim. -/
theorem blakeOwn_holds : Rows.BlakeOwnCardSaid := LawBlakeOwn.card
end Go.Proofs.YtpcokihfecbigaaDoor

