/- BlakeKeys: no more than a key's first 64 bytes count; no key is none. -/
import Derived.Test.YtpcokihfecbigaaDoorFrameD
import Derived.Test.YtpcokihfecbigaaDoorBLaw
import Derived.Test.YtpcokihfecbigaaDoorArgBytesB
namespace Go.Proofs.YtpcokihfecbigaaDoor.LawBlakeKeys
set_option linter.unusedSimpArgs false
set_option linter.unusedVariables false
open Go.ChangeShapes Go.WideShapes Go.ChangeAt Go.RowKit Go.Proofs.YtpcokihfecbigaaDoor.G Go.Proofs.YtpcokihfecbigaaDoor.Frame Go.Proofs.YtpcokihfecbigaaDoor.ArgBytesB Go.Proofs.YtpcokihfecbigaaDoorW.PrintWords Go.Proofs.YtpcokihfecbigaaDoorW.PrintLast Go.Proofs.YtpcokihfecbigaaDoorW.PrintMore

theorem alloc_keeps {w : World} {g : Nat} {o x : Obj} (h : w.heap[g]? = some o) : (w.alloc x).heap[g]? = some o := by
  have hlt : g < w.heap.size := by
    rcases Nat.lt_or_ge g w.heap.size with h' | h'
    · exact h'
    · rw [Array.getElem?_eq_none h'] at h; cases h
  rw [Lib.alloc_old w x g hlt]; exact h
theorem alloc_new1 {w : World} {x o : Obj} : ((w.alloc x).alloc o).heap[w.heap.size + 1]? = some o := by
  have := heap_alloc_new (w.alloc x) o
  rwa [show (w.alloc x).heap.size = w.heap.size + 1 from Array.size_push _] at this
theorem drew_keeps {w : World} {g : Nat} {o : Obj} (h : w.heap[g]? = some o) : w.drew.heap[g]? = some o := h
theorem below_keeps {w w' : World} (hb : Below w.heap.size w w') (g : Nat) (o : Obj) (h : w.heap[g]? = some o) : w'.heap[g]? = some o := by
  have hlt : g < w.heap.size := by
    rcases Nat.lt_or_ge g w.heap.size with h' | h'
    · exact h'
    · rw [Array.getElem?_eq_none h'] at h; cases h
  rw [hb.block g hlt]; exact h
theorem keyedL_take (key p : List Int) : keyedL (key.take 64) p = keyedL key p := by
  unfold keyedL
  rw [List.take_take]
  rfl

set_option maxRecDepth 100000 in
set_option maxHeartbeats 40000000 in
theorem calls (A B : Option Addr) (ca cb : Nat) (key p : List Int) (W : World) (hK : Kd.C (Kd.int .u8) W A key.length key) (hka : key.length ≤ ca) (hP : Kd.C (Kd.int .u8) W B p.length p) (hpb : p.length ≤ cb)
    (hkb : ∀ c ∈ key, 0 ≤ c ∧ c < 256) (hpB : ∀ c ∈ p, 0 ≤ c ∧ c < 256) (hT : Spaces W) :
    Calls Tryd.prog 6 #[.slice A key.length ca, .slice B p.length cb] W fun e w' => e = .returned (.bool true) ∧ Below W.heap.size W w' := by
  by_cases h1 : key.length > 300
  · have d1 : decide ((key.length : Int) > 300) = true := decide_eq_true (by omega)
    clear hK hP hkb hpB hT
    go_enter Tryd.func6, Tryd.ntmps6
    go_wp2
    go_ret
    exact ⟨rfl, Below.refl _ _⟩
  have d1 : decide ((key.length : Int) > 300) = false := decide_eq_false (by omega)
  by_cases h2 : p.length > 500
  · have d2 : decide ((p.length : Int) > 500) = true := decide_eq_true (by omega)
    clear hK hP hkb hpB hT
    go_enter Tryd.func6, Tryd.ntmps6
    go_wp2
    go_ret
    exact ⟨rfl, Below.refl _ _⟩
  have d2 : decide ((p.length : Int) > 500) = false := decide_eq_false (by omega)
  obtain ⟨X, hX⟩ : ∃ X, X = (keyedL key p).map (Value.int .u8) := ⟨_, rfl⟩
  obtain ⟨Y, hY⟩ : ∃ Y, Y = (keyedL [] p).map (Value.int .u8) := ⟨_, rfl⟩
  have heq : ∀ w, (binOp .eql 24 (.agg X.toArray) (.agg X.toArray)).run Tryd.prog w = .ok (.bool true) w := fun w => by rw [hX]; exact eq_hash _ (keyedL_bytes _ _) (keyedL_length _ _) w
  have heq2 : ∀ w, (binOp .eql 24 (.agg Y.toArray) (.agg Y.toArray)).run Tryd.prog w = .ok (.bool true) w := fun w => by rw [hY]; exact eq_hash _ (keyedL_bytes _ _) (keyedL_length _ _) w
  obtain ⟨k, hk⟩ : ∃ k, k = key.take 64 := ⟨_, rfl⟩
  obtain ⟨m, hmin⟩ : ∃ m : Int, min 64 (key.length : Int) = m := ⟨_, rfl⟩
  have hkl : k.length = min 64 key.length := by rw [hk, List.length_take]
  have hmt : m.toNat = k.length := by omega
  have hm0 : 0 ≤ m := by omega
  have hmc : m ≤ (key.length : Int) := by omega
  have hkC : Kd.C (Kd.int .u8) W A k.length k := by
    by_cases h64 : 64 ≤ key.length
    · rw [hk]; exact Kd.C_take hK h64
    · rw [hk, List.take_of_length_le (by omega)]; exact hK
  have hkB : ∀ c ∈ k, 0 ≤ c ∧ c < 256 := by rw [hk]; exact fun c hc => hkb c (List.mem_of_mem_take hc)
  obtain ⟨i8, hi8, hsz8⟩ := info_u8s
  have hcut1 : ∀ W : World, (Instr.slice 22 (.slice A key.length ca) none (some (.int .i64 m)) none).run Tryd.prog W = .ok (.slice A k.length ca) W := fun W => by
    rw [← hmt]
    exact cut_to 22 5 .i64 Tryd.underlying22 hi8 A key.length ca m hm0 hmc hka W
  have HKD := Aside0.mk (fun (w : World) (g : Nat) (hb : Below W.heap.size W w) (hg : w.heap[g]? = some (.cells #[.slice B p.length cb] 22 (0, 0))) => keyed_one A B ca cb key p W hK hka hP hpb (by omega) (by omega) hkb hpB hT w g hb hg)
  have HKC := Aside0.mk (fun (w : World) (g : Nat) (hb : Below W.heap.size W w) (hg : w.heap[g]? = some (.cells #[.slice B p.length cb] 22 (0, 0))) => keyed_one A B ca cb k p W hkC (by omega) hP hpb (by omega) (by omega) hkB hpB hT w g hb hg)
  have HK0 : Aside0 (∀ (w : World) (g : Nat), Below W.heap.size W w → w.heap[g]? = some (.cells #[.slice B p.length cb] 22 (0, 0)) → Calls Tryd.prog 9 #[.slice none 0 0, .slice (some ⟨g, 0, none⟩) 1 1] w fun e w' => e = .returned (.agg Y.toArray) ∧ Below w.heap.size w w') := ⟨fun w g hb hg => by rw [hY]; exact keyed_one none B 0 cb [] p W (Kd.C_nil _ _) (Nat.le_refl _) hP hpb (by simp) (by omega) (fun c hc => by cases hc) hpB hT w g hb hg⟩
  have HSM := Aside0.mk (fun (w : World) (g : Nat) (hb : Below W.heap.size W w) (hg : w.heap[g]? = some (.cells #[.slice B p.length cb] 22 (0, 0))) => sum_one B cb p W hP hpb (by omega) hpB hT w g hb hg)
  rw [show keyedL k p = keyedL key p by rw [hk, keyedL_take]] at HKC
  rw [← hX] at HKD HKC
  rw [← hY] at HSM
  have HKN := Aside0.mk (fun (w : World) (hb : Below W.heap.size W w) => althinglaw2_known.calls w (hT.below hb))
  clear hX hY hk hkl hmt hm0 hmc hkC hkB hi8 hsz8 hK hP hkb hpB hT hka hpb h1 h2
  go_enter Tryd.func6, Tryd.ntmps6
  go_upto_region 3 with (fail)
  go_region_held3 (fun w' => Below W.heap.size W w') (first | exact Below.drew (Below.refl _ _) | assumption | exact below_alloc (by assumption) _) (first
    | (go_at_call 13; with_reducible refine (HKN.out _ (by assumption)).mono ?_; rintro e W6 ⟨rfl, hb_⟩; have B6 := below_step (by assumption) hb_; clear hb_)
    | (go_at_call 11; with_reducible refine (HSM.out _ _ (by assumption) (by repeat (first | exact heap_alloc_new _ _ | exact alloc_new1 | apply drew_keeps | apply alloc_keeps | apply KB1 | apply KB2 | apply KB3))).mono ?_; rintro e W5 ⟨rfl, hb_⟩; have B5 := below_step (by assumption) hb_; clear hb_)
    | (go_at_call 9; with_reducible refine (HK0.out _ _ (by assumption) (by repeat (first | exact heap_alloc_new _ _ | exact alloc_new1 | apply drew_keeps | apply alloc_keeps | apply KB1 | apply KB2 | apply KB3))).mono ?_; rintro e W4 ⟨rfl, hb_⟩; have B4 := below_step (by assumption) hb_; have KB3 := below_keeps hb_; clear hb_)
    | (go_at_call 9; with_reducible refine (HKC.out _ _ (by assumption) (by repeat (first | exact heap_alloc_new _ _ | exact alloc_new1 | apply drew_keeps | apply alloc_keeps | apply KB1 | apply KB2 | apply KB3))).mono ?_; rintro e W3 ⟨rfl, hb_⟩; have B3 := below_step (by assumption) hb_; have KB2 := below_keeps hb_; clear hb_)
    | (go_at_call 9; with_reducible refine (HKD.out _ _ (by assumption) (by repeat (first | exact heap_alloc_new _ _ | exact alloc_new1 | apply drew_keeps | apply alloc_keeps | apply KB1 | apply KB2 | apply KB3))).mono ?_; rintro e W2 ⟨rfl, hb_⟩; have B2 := below_step (by assumption) hb_; have KB1 := below_keeps hb_; clear hb_))
  all_goals (go_wp2; go_ret; exact ⟨rfl, by assumption⟩)

set_option maxRecDepth 100000 in
theorem walks : WalksD 6 Tryd.f6 := by
  intro H enc W base args ds ps hT hval hA _ _ _
  rw [Tryd.params6] at hA hval
  obtain ⟨v0, v1, d0, d1, p0, p1, rfl, rfl, rfl, h0, h1⟩ := trodAll_two hA
  obtain ⟨A0, _, c0, key, rfl, ⟨hC0, hc0⟩, rfl, hB0⟩ := open_bytes (hval 0 22 v0 rfl rfl) h0
  obtain ⟨A1, _, c1, p, rfl, ⟨hC1, hc1⟩, rfl, hB1⟩ := open_bytes (hval 1 22 v1 rfl rfl) h1
  exact calls A0 A1 c0 c1 key p W hC0 hc0 hC1 hc1 hB0 hB1 hT
set_option maxRecDepth 100000 in
theorem rowed (os : Os) (started : os.Started) (H : Type) (enc : TypeId × Value → H) :
    ReturnsInHanded {} Tryd.checked os 6 .any (fun w args => (Rows.blakeKeysSpec.pre enc Tryd.prog Tryd.f6 [] false w args ∧ laidMetH Tryd.prog laidL w) ∧ sizedMet enc Tryd.prog Tryd.f6 (OpenSpec.ofChange Rows.blakeKeysSpec) false w args) (Rows.blakeKeysSpec.post enc Tryd.prog Tryd.f6 false true false false) :=
  liftedD (s := Rows.blakeKeysSpec) Tryd.func6 (by kernel_rfl) (by kernel_rfl) (by kernel_rfl) (by kernel_rfl) rfl
    (fun H ds h => by
      have h' : ds.length = 2 := h
      match ds, h' with
      | [d1, d2], _ => rfl)
    os started H enc
    (ChangeSpec.witness_shaped (enc := enc) (C := Tryd.checked) (os := os) (X := fun w _ => laidMetH Tryd.prog laidL w) false (World.laidAll Tryd.prog os laidL) #[.slice none 0 0, .slice none 0 0] 8 (World.laidAll_os _ _ _)
      (World.shaped_of_ZipB (by kernel_rfl) (by kernel_rfl)) (by kernel_rfl) (by kernel_rfl) (by kernel_rfl)
      (by rw [MakeChecks.laidMetH_plain _ _ _ (by kernel_rfl)]; exact laidMet_laidAll _ (by kernel_rfl) (by kernel_rfl))) walks
theorem over : Rows.blakeKeysRow.holds Tryd.pinned (OpenSpec.ofChange Rows.blakeKeysSpec) :=
  OpenClaim.holds_of_wide 6 Tryd.f6 rfl rfl rfl rfl rfl rfl rfl ⟨rfl, rfl, rfl, rfl, rfl⟩ rfl rfl rfl rfl rfl (by kernel_rfl) Tryd.func6 (by kernel_rfl)
    (of_decide_eq_true (by kernel_rfl)) (by unfold Func.isWrapper; first | (rw [if_pos (by decide +kernel)]; kernel_rfl) | (rw [if_neg (by decide +kernel)]; exact ⟨rfl, rfl⟩))
    (fun os started H enc _ => rowed os started H enc)
theorem card : Rows.BlakeKeysCardSaid :=
  Claim7.holds_tied_plain_at .later [] [.listed, .data] true (true, "03724181d54186f410bc65e8d38e1c8b02862d05347ad8a7a5f13c3a8643d6a9") false over (fun _ h => by cases h) (by kernel_rfl) (fun _ h => by cases h) blakeKeys_row_tie rfl ⟨rfl, rfl⟩ (by kernel_rfl) rfl
    (fun f fn hf hfn => by
      obtain rfl : f = 6 := Option.some.inj ((show Tryd.prog.funcNamed "althing/althinglaw2.BlakeKeys" = some 6 by kernel_rfl).symm.trans hf) |>.symm
      obtain rfl : fn = Tryd.f6 := (Option.some.inj (Tryd.func6.symm.trans hfn)).symm
      exact ⟨by kernel_rfl, fun j t ht => by
        have hm : t ∈ Tryd.f6.params.toList := by simpa using Array.mem_of_getElem? ht
        have hall : (Tryd.f6.params.toList.all fun u => !Tryd.prog.wantsStandIn u) = true := by kernel_rfl
        exact (show Tryd.prog.wantsStandIn t = false by simpa using List.all_eq_true.1 hall t hm)⟩)
    (by kernel_rfl)
end Go.Proofs.YtpcokihfecbigaaDoor.LawBlakeKeys
namespace Go.Proofs.YtpcokihfecbigaaDoor
/-- The row's card, under a short name, for the claim. -/
theorem blakeKeys_holds : Rows.BlakeKeysCardSaid := LawBlakeKeys.card
end Go.Proofs.YtpcokihfecbigaaDoor

