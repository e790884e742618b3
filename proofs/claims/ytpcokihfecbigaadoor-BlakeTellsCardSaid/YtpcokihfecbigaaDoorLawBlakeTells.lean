/- BlakeTells: any bytes' digest, with any key, is the document's. -/
import Derived.Test.YtpcokihfecbigaaDoorFrameD
import Derived.Test.YtpcokihfecbigaaDoorBLaw
import Derived.Test.YtpcokihfecbigaaDoorRKeyed
import Derived.Test.YtpcokihfecbigaaDoorArgBytesB
namespace Go.Proofs.YtpcokihfecbigaaDoor.LawBlakeTells
set_option linter.unusedSimpArgs false
set_option linter.unusedVariables false
open Go.ChangeShapes Go.WideShapes Go.ChangeAt Go.RowKit Go.Proofs.YtpcokihfecbigaaDoor.G Go.Proofs.YtpcokihfecbigaaDoor.Frame Go.Proofs.YtpcokihfecbigaaDoor.ArgBytesB Go.Proofs.YtpcokihfecbigaaDoorW.PrintWords Go.Proofs.YtpcokihfecbigaaDoorW.PrintLast Go.Proofs.YtpcokihfecbigaaDoorW.PrintMore

set_option maxRecDepth 100000 in
set_option maxHeartbeats 40000000 in
theorem calls (A B : Option Addr) (ca cb : Nat) (key p : List Int) (W : World) (hK : Kd.C (Kd.int .u8) W A key.length key) (hka : key.length ≤ ca) (hP : Kd.C (Kd.int .u8) W B p.length p) (hpb : p.length ≤ cb)
    (hkb : ∀ c ∈ key, 0 ≤ c ∧ c < 256) (hpB : ∀ c ∈ p, 0 ≤ c ∧ c < 256) (hT : Spaces W) :
    Calls Tryd.prog 3 #[.slice A key.length ca, .slice B p.length cb] W fun e w' => e = .returned (.bool true) ∧ Below W.heap.size W w' := by
  by_cases h1 : key.length > 200
  · have d1 : decide ((key.length : Int) > 200) = true := decide_eq_true (by omega)
    clear hK hP hkb hpB hT
    go_enter Tryd.func3, Tryd.ntmps3
    go_wp2
    go_ret
    exact ⟨rfl, Below.refl _ _⟩
  have d1 : decide ((key.length : Int) > 200) = false := decide_eq_false (by omega)
  by_cases h2 : p.length > 1000
  · have d2 : decide ((p.length : Int) > 1000) = true := decide_eq_true (by omega)
    clear hK hP hkb hpB hT
    go_enter Tryd.func3, Tryd.ntmps3
    go_wp2
    go_ret
    exact ⟨rfl, Below.refl _ _⟩
  have d2 : decide ((p.length : Int) > 1000) = false := decide_eq_false (by omega)
  obtain ⟨X, hX⟩ : ∃ X, X = (keyedL key p).map (Value.int .u8) := ⟨_, rfl⟩
  obtain ⟨Y, hY⟩ : ∃ Y, Y = (keyedL [] p).map (Value.int .u8) := ⟨_, rfl⟩
  obtain ⟨V, hV⟩ : ∃ V, V = (keyedL [] []).map (Value.int .u8) := ⟨_, rfl⟩
  have heq : ∀ w, (binOp .eql 24 (.agg X.toArray) (.agg X.toArray)).run Tryd.prog w = .ok (.bool true) w := fun w => by rw [hX]; exact eq_hash _ (keyedL_bytes _ _) (keyedL_length _ _) w
  have heq2 : ∀ w, (binOp .eql 24 (.agg Y.toArray) (.agg Y.toArray)).run Tryd.prog w = .ok (.bool true) w := fun w => by rw [hY]; exact eq_hash _ (keyedL_bytes _ _) (keyedL_length _ _) w
  have heq3 : ∀ w, (binOp .eql 24 (.agg V.toArray) (.agg V.toArray)).run Tryd.prog w = .ok (.bool true) w := fun w => by rw [hV]; exact eq_hash _ (keyedL_bytes _ _) (keyedL_length _ _) w
  have HKD := Aside0.mk (fun (w : World) (g : Nat) (hb : Below W.heap.size W w) (hg : w.heap[g]? = some (.cells #[.slice B p.length cb] 22 (0, 0))) => keyed_one A B ca cb key p W hK hka hP hpb (by omega) (by omega) hkb hpB hT w g hb hg)
  have HKR := Aside0.mk (fun (w : World) (hb : Below W.heap.size W w) => ref_Keyed.calls A B ca cb key p w (Kd.C_below hK hb) hka (Kd.C_below hP hb) hpb (by omega) (by omega) hkb hpB)
  have HSM := Aside0.mk (fun (w : World) (g : Nat) (hb : Below W.heap.size W w) (hg : w.heap[g]? = some (.cells #[.slice B p.length cb] 22 (0, 0))) => sum_one B cb p W hP hpb (by omega) hpB hT w g hb hg)
  have HSR := Aside0.mk (fun (w : World) (hb : Below W.heap.size W w) => ref_Sum.calls B cb p w (Kd.C_below hP hb) hpb (by omega) hpB)
  have HS0 : Aside0 (∀ w : World, Below W.heap.size W w → Calls Tryd.prog 11 #[.slice none 0 0] w fun e w' => e = .returned (.agg V.toArray) ∧ Below w.heap.size w w') := ⟨fun w hb => by rw [hV]; exact blake_Sum.calls none 0 [] w (Kd.C_nil _ _) (Nat.le_refl _) (by simp) (by simp) (fun c hc => by cases hc) (hT.below hb)⟩
  have HR0 : Aside0 (∀ w : World, Below W.heap.size W w → Calls Tryd.prog 12 #[.slice none 0 0] w fun e w' => e = .returned (.agg V.toArray) ∧ Below w.heap.size w w') := ⟨fun w hb => by rw [hV]; exact ref_Sum.calls none 0 [] w (Kd.C_nil _ _) (Nat.le_refl _) (by simp) (fun c hc => by cases hc)⟩
  rw [← hX] at HKD HKR
  rw [← hY] at HSM HSR
  have HKN := Aside0.mk (fun (w : World) (hb : Below W.heap.size W w) => althinglaw2_known.calls w (hT.below hb))
  clear hX hY hV hK hP hkb hpB hT hka hpb h1 h2
  go_enter Tryd.func3, Tryd.ntmps3
  go_upto_region 3 with (fail)
  go_wp2_with (first
    | ((with_reducible refine gate_dst (N := 15) rfl ?_); refine slice_event ?hg (N := 15) ?hd (cs := #[.slice B p.length cb]) (t := 22) (n := 1) (c := 1) ?hr ?_; (case hd => rfl); (case hg => rfl); (case hr => first | (go_simp; done) | (go_simp; rfl)); intro gl1 hg_ wl1 hbox_ hb_; have BX15 := Aside0.mk hbox_; have Bwl1 := Aside0.mk (hb_); clear hg_ hbox_ hb_)
    | (go_at_call 9; with_reducible refine (HKD.out wl1 gl1 Bwl1.out BX15.out).mono ?_; rintro e wk1 ⟨rfl, hb_⟩; have Bwk1 := Aside0.mk (below_step Bwl1.out hb_); clear hb_)
    | (go_at_call 10; with_reducible refine (HKR.out wk1 Bwk1.out).mono ?_; rintro e wk2 ⟨rfl, hb_⟩; have Bwk2 := Aside0.mk (below_step Bwk1.out hb_); clear hb_)
    | ((with_reducible refine gate_dst (N := 23) rfl ?_); refine gate_guard (by rfl) ?_; refine slice_event ?hg (N := 23) ?hd (cs := #[.slice B p.length cb]) (t := 22) (n := 1) (c := 1) ?hr ?_; (case hd => rfl); (case hg => rfl); (case hr => first | (go_simp; done) | (go_simp; rfl)); intro gl2 hg_ wl2 hbox_ hb_; have BX23 := Aside0.mk hbox_; have Bwl2 := Aside0.mk (below_step Bwk2.out hb_); clear hg_ hbox_ hb_)
    | (go_at_call 11; with_reducible refine (HSM.out wl2 gl2 Bwl2.out BX23.out).mono ?_; rintro e ws1 ⟨rfl, hb_⟩; have Bws1 := Aside0.mk (below_step Bwl2.out hb_); clear hb_)
    | (go_at_call 12; with_reducible refine (HSR.out ws1 Bws1.out).mono ?_; rintro e ws2 ⟨rfl, hb_⟩; have Bws2 := Aside0.mk (below_step Bws1.out hb_); clear hb_)
    | (go_at_call 11; with_reducible refine (HS0.out ws2 Bws2.out).mono ?_; rintro e ws3 ⟨rfl, hb_⟩; have Bws3 := Aside0.mk (below_step Bws2.out hb_); clear hb_)
    | (go_at_call 12; with_reducible refine (HR0.out ws3 Bws3.out).mono ?_; rintro e ws4 ⟨rfl, hb_⟩; have Bws4 := Aside0.mk (below_step Bws3.out hb_); clear hb_)
    | (go_at_call 13; with_reducible refine (HKN.out ws4 Bws4.out).mono ?_; rintro e ws5 ⟨rfl, hb_⟩; have Bws5 := Aside0.mk (below_step Bws4.out hb_); clear hb_))
  go_ret
  exact ⟨rfl, Bws5.out⟩

set_option maxRecDepth 100000 in
theorem walks : WalksD 3 Tryd.f3 := by
  intro H enc W base args ds ps hT hval hA _ _ _
  rw [Tryd.params3] at hA hval
  obtain ⟨v0, v1, d0, d1, p0, p1, rfl, rfl, rfl, h0, h1⟩ := trodAll_two hA
  obtain ⟨A0, _, c0, key, rfl, ⟨hC0, hc0⟩, rfl, hB0⟩ := open_bytes (hval 0 22 v0 rfl rfl) h0
  obtain ⟨A1, _, c1, p, rfl, ⟨hC1, hc1⟩, rfl, hB1⟩ := open_bytes (hval 1 22 v1 rfl rfl) h1
  exact calls A0 A1 c0 c1 key p W hC0 hc0 hC1 hc1 hB0 hB1 hT
set_option maxRecDepth 100000 in
theorem rowed (os : Os) (started : os.Started) (H : Type) (enc : TypeId × Value → H) :
    ReturnsInHanded {} Tryd.checked os 3 .any (fun w args => (Rows.blakeTellsSpec.pre enc Tryd.prog Tryd.f3 [] false w args ∧ laidMetH Tryd.prog laidL w) ∧ sizedMet enc Tryd.prog Tryd.f3 (OpenSpec.ofChange Rows.blakeTellsSpec) false w args) (Rows.blakeTellsSpec.post enc Tryd.prog Tryd.f3 false true false false) :=
  liftedD (s := Rows.blakeTellsSpec) Tryd.func3 (by kernel_rfl) (by kernel_rfl) (by kernel_rfl) (by kernel_rfl) rfl
    (fun H ds h => by
      have h' : ds.length = 2 := h
      match ds, h' with
      | [d1, d2], _ => rfl)
    os started H enc
    (ChangeSpec.witness_shaped (enc := enc) (C := Tryd.checked) (os := os) (X := fun w _ => laidMetH Tryd.prog laidL w) false (World.laidAll Tryd.prog os laidL) #[.slice none 0 0, .slice none 0 0] 8 (World.laidAll_os _ _ _)
      (World.shaped_of_ZipB (by kernel_rfl) (by kernel_rfl)) (by kernel_rfl) (by kernel_rfl) (by kernel_rfl)
      (by rw [MakeChecks.laidMetH_plain _ _ _ (by kernel_rfl)]; exact laidMet_laidAll _ (by kernel_rfl) (by kernel_rfl))) walks
theorem over : Rows.blakeTellsRow.holds Tryd.pinned (OpenSpec.ofChange Rows.blakeTellsSpec) :=
  OpenClaim.holds_of_wide 3 Tryd.f3 rfl rfl rfl rfl rfl rfl rfl ⟨rfl, rfl, rfl, rfl, rfl⟩ rfl rfl rfl rfl rfl (by kernel_rfl) Tryd.func3 (by kernel_rfl)
    (of_decide_eq_true (by kernel_rfl)) (by unfold Func.isWrapper; first | (rw [if_pos (by decide +kernel)]; kernel_rfl) | (rw [if_neg (by decide +kernel)]; exact ⟨rfl, rfl⟩))
    (fun os started H enc _ => rowed os started H enc)
theorem card : Rows.BlakeTellsCardSaid :=
  Claim7.holds_tied_plain_at .later [] [.listed, .data] true (true, "03724181d54186f410bc65e8d38e1c8b02862d05347ad8a7a5f13c3a8643d6a9") false over (fun _ h => by cases h) (by kernel_rfl) (fun _ h => by cases h) blakeTells_row_tie rfl ⟨rfl, rfl⟩ (by kernel_rfl) rfl
    (fun f fn hf hfn => by
      obtain rfl : f = 3 := Option.some.inj ((show Tryd.prog.funcNamed "althing/althinglaw2.BlakeTells" = some 3 by kernel_rfl).symm.trans hf) |>.symm
      obtain rfl : fn = Tryd.f3 := (Option.some.inj (Tryd.func3.symm.trans hfn)).symm
      exact ⟨by kernel_rfl, fun j t ht => by
        have hm : t ∈ Tryd.f3.params.toList := by simpa using Array.mem_of_getElem? ht
        have hall : (Tryd.f3.params.toList.all fun u => !Tryd.prog.wantsStandIn u) = true := by kernel_rfl
        exact (show Tryd.prog.wantsStandIn t = false by simpa using List.all_eq_true.1 hall t hm)⟩)
    (by kernel_rfl)
end Go.Proofs.YtpcokihfecbigaaDoor.LawBlakeTells
namespace Go.Proofs.YtpcokihfecbigaaDoor
/-- The row's card, under a short name, for the claim. -/
theorem blakeTells_holds : Rows.BlakeTellsCardSaid := LawBlakeTells.card
end Go.Proofs.YtpcokihfecbigaaDoor

