/- CompactNums: at most 100 numbers that were put are told one behind the other; what is no number ends them. -/
import Derived.Test.YtdnfknphahmofaaFrame
import Derived.Test.YtdnfknphahmofaaPKnown
import Derived.Test.YtdnfknphahmofaaArgBytes
import Derived.Test.YtdnfknphahmofaaHReader
import Derived.Deep.RegionHeld3
import Derived.Test.YtdnfknphahmofaaGx3
namespace Go.Proofs.Ytdnfknphahmofaa.LawCompactNums
set_option linter.unusedSimpArgs false
set_option linter.unusedVariables false
open Go.ChangeShapes Go.WideShapes Go.ChangeAt Go.RowKit Go.Shelf Go.Proofs.Ytdnfknphahmofaa.G Go.Proofs.Ytdnfknphahmofaa.PNum Go.Proofs.Ytdnfknphahmofaa.Frame Go.Proofs.Ytdnfknphahmofaa.ArgBytes Go.Proofs.YtdnfknphahmofaaW.PrintWords Go.Proofs.YtdnfknphahmofaaW.PrintMore

theorem numsL_put (l : List Int) (t : List Int) : numsL (numsB l ++ t) = l.map heldN ++ numsL t := by
  induction l with
  | nil => simp [numsB_nil]
  | cons n l ih =>
    have hh := heldN_bound n
    have h := takeN_put hh.1 hh.2 (numsB l ++ t)
    rw [numB_held, sizeN_held] at h
    rw [numsB_cons, List.append_assoc, numsL_some h, List.drop_left' (numB_length n), ih]
    rfl

theorem numsL_length (b : List Int) : (numsL b).length ≤ b.length := by
  suffices h : ∀ n (b : List Int), b.length ≤ n → (numsL b).length ≤ b.length from h _ b (Nat.le_refl _)
  intro n
  induction n with
  | zero => intro b hb; obtain rfl := List.length_eq_zero_iff.1 (Nat.le_zero.1 hb); simp [numsL, numsF, takeN]
  | succ n ih =>
    intro b hb
    cases hT : takeN b with
    | none => rw [numsL_none hT]; simp
    | some x =>
      obtain ⟨v, s⟩ := x
      have hs := takeN_size hT
      have := ih (b.drop s) (by rw [List.length_drop]; omega)
      rw [numsL_some hT, List.length_cons]
      rw [List.length_drop] at this
      omega

theorem drop_pos {l : List Int} {s : Nat} (h : 0 < (l.drop s).length) : 0 < l.length := by rw [List.length_drop] at h; omega
theorem cast_lt {k n : Nat} (h : k < n) (hn : n ≤ 10001) : (k : Int) < 10001 := by omega
theorem meas {k n : Nat} (h : k < n) : n - (intOf (.int .i64 ((k : Int) + 1))).toNat < n - (intOf (.int .i64 (k : Int))).toNat := by
  simp [intOf]
  omega

set_option maxRecDepth 100000 in
set_option maxHeartbeats 4000000 in
theorem walk (A0 : Option Addr) (c0 : Nat) (l : List Int) (A1 : Option Addr) (c1 : Nat) (t : List Int) (w : World) (hC0 : Kd.C (Kd.int .i64) w A0 l.length l) (h0 : l.length ≤ c0) (hC1 : Kd.C (Kd.int .u8) w A1 t.length t) (h1 : t.length ≤ c1)
    (hb : IsBytes t) (hl : l.length ≤ 100) (ht : t.length ≤ 100) :
    Calls Try.prog 6 #[.slice A0 l.length c0, .slice A1 t.length c1] w fun e w' => e = .returned (.bool true) ∧ Below w.heap.size w w' := by
  have b0 : decide ((100 : Int) < (l.length : Int)) = false := decide_eq_false (by omega)
  have b1 : decide ((100 : Int) < (t.length : Int)) = false := decide_eq_false (by omega)
  have hnl := numsB_length l
  have hput := put_tells 200 [] l (by omega) (by omega) (by simp; omega)
  rw [List.nil_append] at hput
  have hbb : IsBytes (numsB l ++ t) := (numsB_bytes l).append hb
  have hlen : (numsL (numsB l ++ t)).length ≤ 10001 := by
    have := numsL_length (numsB l ++ t)
    rw [List.length_append] at this
    omega
  obtain ⟨B, hB⟩ : ∃ B, B = numsB l ++ t := ⟨_, rfl⟩
  obtain ⟨M, hM⟩ : ∃ M, M = numsL B := ⟨_, rfl⟩
  rw [← hB] at hbb hlen
  rw [← hM] at hlen
  have hM' : M = l.map heldN ++ numsL t := by rw [hM, hB, numsL_put]
  have hm1 : l.length ≤ M.length := by rw [hM', List.length_append, List.length_map]; omega
  have c2 : decide ((M.length : Int) < (l.length : Int)) = false := decide_eq_false (by omega)
  have HR0 := Aside0.mk hC0
  have HR1 := Aside0.mk hC1
  have HQ := Aside0.mk (Below.refl w.heap.size w)
  have HBB := Aside0.mk hB
  have HMM := Aside0.mk hM
  have HMM' := Aside0.mk hM'
  have hput' := Aside0.mk hput
  have hbb' := Aside0.mk hbb
  have hlen' := Aside0.mk hlen
  clear hput hbb hlen hC0 hC1 hB hM hM' hnl
  go_enter Try.func6, Try.ntmps6
  go_upto_region 4 with (first
    | (go_at_call 13; refine (compact_Put.calls 200 none 0 [] A0 c0 l (numsB l) _ (Kd.C_nil _ _) (Nat.le_refl _) HR0.out h0 hput'.out).mono ?_; rintro e w1 ⟨v, rfl, hv, hb1⟩; have HV := Aside0.mk hv; have HB1 := Aside0.mk hb1; clear hv hb1)
    | ((with_reducible refine gate_builtin (b := .append) (xs := #[.tmp 23, .tmp 24]) rfl ?_); at_builtin; refine Kd.R_append_rows (Kd.int .u8) (w0 := w) w.heap.size rfl (.tmp 23) (.tmp 24) 23 5 (.int .u8 0) 1 rfl Try.underlying23 info5 rfl (by decide) (by omega) _ (numsB l) t _ _ _ (fun _ => True) (fun _ => False) rfl rfl HV.out (Kd.C_below HR1.out HB1.out) (fun _ _ h => h) (fun _ h => h.elim) (fun _ _ => trivial) HB1.out HB1.out.size ?aL ?_; (case aL => have := numsB_length l; omega); intro v2 w2 ho2 hb2 hg2 hat2; clear hg2 hat2; rw [← HBB.out] at ho2; obtain ⟨Ao, co, rfl⟩ := Kd.R_slice ho2; have HO2 := Aside0.mk ho2; have HB2 := Aside0.mk hb2; clear ho2 hb2 HV HB1))
  go_upto_region 7 with (go_at_call 16; refine (althinglaw1_nums.calls_ Ao co B _ (Kd.R_reads' HO2.out).2.2 (Kd.R_reads' HO2.out).2.1 hbb'.out (HMM.out ▸ hlen'.out)).mono ?_; rintro e w3 ⟨v3, rfl, hv3, hb3⟩; rw [← HMM.out] at hv3; obtain ⟨Am, cm, rfl⟩ := Kd.R_slice hv3; have HM := Aside0.mk (Kd.R_lower hv3 HB2.out.size); have HB3 := Aside0.mk (HB2.out.trans (hb3.mono HB2.out.size)); clear hv3 hb3)
  have c3 : decide (M.length < l.length) = false := decide_eq_false (by omega)
  rw [c3]
  clear c3
  go_wp2
  go_loopw [8] (fun i wr => ∃ k : Nat, i = .int .i64 (k : Int) ∧ k ≤ l.length ∧ Aside0 (Kd.R (Kd.int .i64) 3 wr w.heap.size (fun _ => True) (.slice Am M.length cm) M) ∧ Aside0 (Below w.heap.size w wr))
    (fun i _ => l.length - (intOf i).toNat)
  case atStart => exact ⟨0, rfl, Nat.zero_le _, HM, HB3⟩
  case round =>
    obtain ⟨k, rfl, hk, HM1, HB4⟩ := hrel
    clear HM HB3
    by_cases hlt : k < l.length
    · have d0 : decide ((k : Int) < (l.length : Int)) = true := decide_eq_true (by omega)
      obtain ⟨ad0, ea0, hca⟩ := Kd.at_int (Kd.C_below HR0.out HB4.out) (k : Int) (by omega) (by omega)
      obtain ⟨adm, eam, hcm⟩ := Kd.at_int (Kd.R_reads' HM1.out).2.2 (k : Int) (by omega) (by omega)
      subst ea0 eam
      simp only [Int.toNat_natCast] at hca hcm
      have hval : rd M (k : Int) = heldN (rd l (k : Int)) := by
        rw [rd_nat M k (by omega), rd_nat l k hlt]
        have := HMM'.out
        subst this
        rw [List.getElem_append_left (by simpa using hlt), List.getElem_map]
      rw [hval] at hcm
      clear hval
      have g0 : (0 : Int) ≤ (k : Int) := by omega
      have g1 : (k : Int) < (l.length : Int) := by omega
      have g2 : (k : Int) < (M.length : Int) := by omega
      go_upto_region 10 with fail
      go_region_held3 (fun w' => w'.cell? (ad0.add k) = some (.int .i64 (rd l (k : Int))) ∧ w'.cell? (adm.add k) = some (.int .i64 (heldN (rd l (k : Int))))) (go_keep) (fail)
      have hv : heldN (rd l (k : Int)) = min (max (rd l (k : Int)) 0) 4611686018427387904 := rfl
      go_wp2
      all_goals exact ⟨⟨k + 1, by simp, by omega, ⟨Kd.R_drew HM1.out⟩, ⟨below_drew1 HB4.out⟩⟩, by simp [intOf]; omega⟩
    · obtain rfl : k = l.length := by omega
      clear hk hlt
      have g5 : decide ((l.length : Int) < (l.length : Int)) = false := decide_eq_false (by omega)
      obtain ⟨Rb, hRb⟩ : ∃ Rb, Rb = wr.heap.size := ⟨_, rfl⟩
      have hsz : w.heap.size ≤ Rb := by rw [hRb]; exact HB4.out.size
      go_wp2
      rw [← hRb]
      go_loopw [10] (fun i wq => ∃ (k : Nat) (r : List Int) (A' : Option Addr) (c' : Nat), i = .int .i64 (k : Int) ∧ k ≤ M.length ∧ Aside0 (M.drop k = numsL r) ∧ Aside0 (IsBytes r ∧ r.length ≤ 100 ∧ r.length ≤ c') ∧ Aside0 (ReaderAt wq Rb (.slice A' r.length c') false) ∧ Aside0 (Kd.C (Kd.int .u8) wq A' r.length r) ∧
          Aside0 (∀ ad, A' = some ad → 0 < r.length → ad.block < w.heap.size) ∧ Aside0 (Kd.R (Kd.int .i64) 3 wq w.heap.size (fun _ => True) (.slice Am M.length cm) M) ∧ Aside0 (Below w.heap.size w wq))
        (fun i _ => M.length - (intOf i).toNat)
      case atStart =>
        refine ⟨l.length, t, A1, c1, rfl, hm1, ⟨?_⟩, ⟨hb, ht, h1⟩, ⟨by rw [hRb]; exact World.alloc_heap_new wr _⟩, ⟨Kd.C_alloc (Kd.C_below HR1.out HB4.out) _⟩, ⟨fun ad e hn => ?_⟩, ⟨Kd.R_alloc HM1.out _⟩, ⟨HB4.out.alloc HB4.out.size _⟩⟩
        · rw [HMM'.out, List.drop_left' (by simp)]
        · subst e; exact Kd.C_lt HR1.out hn (by decide)
      case round =>
        have HRb := Aside0.mk hRb
        clear hRb
        obtain ⟨k, r, A', c', rfl, hk, e1, e2, e3, e5, e4, e6, e7⟩ := hrel
        by_cases hlt : k < M.length
        · have d0 : decide ((k : Int) < (M.length : Int)) = true := decide_eq_true (by omega)
          obtain ⟨v5, s5, hv5⟩ : ∃ v s, takeN r = some (v, s) := by
            cases hT : takeN r with
            | none => rw [numsL_none hT] at e1; have := congrArg List.length e1.out; simp at this; omega
            | some x => exact ⟨x.1, x.2, rfl⟩
          have hd := e1.out
          rw [numsL_some hv5, List.drop_eq_getElem_cons hlt, List.cons.injEq] at hd
          obtain ⟨adm, eam, hcm⟩ := Kd.at_int (Kd.R_reads' e6.out).2.2 (k : Int) (by omega) (by omega)
          subst eam
          simp only [Int.toNat_natCast] at hcm
          rw [rd_nat M k hlt, hd.1] at hcm
          have hd2 := Aside0.mk hd.2
          clear hd
          have hs5 := takeN_size hv5
          have hv5' := Aside0.mk hv5
          clear hv5
          have g0 : (0 : Int) ≤ (k : Int) := by omega
          have g2 : (k : Int) < (M.length : Int) := by omega
          have f2 : Aside0 ((r.drop s5).length ≤ 100) := ⟨by rw [List.length_drop]; have := e2.out.2.1; omega⟩
          have hty := Kd.R_types e6.out (g := Rb) e3.out (by decide)
          have hne : adm.block ≠ Rb := (hty.1 adm.block rfl).2
          have halt : adm.block < wr.heap.size := Kd.C_lt (Kd.R_reads' e6.out).2.2 (by omega) (by decide)
          have hty' := Aside0.mk hty
          clear hty
          have z2 : wr.cell? ⟨Rb, 1, none⟩ = some (.bool false) := by simp [World.cell?, show wr.heap[Rb]? = _ from e3.out]
          go_upto_region 16 with fail
          go_region_held3 (fun w' => w'.cell? (adm.add k) = some (.int .i64 v5) ∧ w'.cell? ⟨Rb, 1, none⟩ = some (.bool false)) (go_keep)
            (first | (go_at_call 17; refine (Reader_Num.calls Rb A' c' r v5 s5 _ e2.out.1 (by have := e2.out.2.1; omega) ?qC e2.out.2.2 ?qA ?qR hv5'.out).mono ?_; (case qC => first | exact e5.out | exact Kd.C_drew e5.out | exact Kd.C_drewN e5.out _); (case qR => exact e3.out); (case qA => (intro ad ea hn; have := e4.out ad ea hn; omega)); rintro e w5 ⟨A5, c5, rfl, q1, q2, q3, q4, q5, q6, q7⟩; have HBx := (Below.drew e7.out).trans (q5.mono hsz); have z1' : w5.cell? (adm.add k) = some (.int .i64 v5) := (by rw [← hcm]; exact World.cell?_of_block (q7 _ (by rw [addr_block]; exact halt) (by rw [addr_block]; exact hne))); have z2' : w5.cell? ⟨Rb, 1, none⟩ = some (.bool false) := (by simp [World.cell?, show w5.heap[Rb]? = _ from q1])))
          have hm3 := cast_lt hlt hlen'.out
          go_wp2
          go_roundw
          case rel =>
            refine ⟨k + 1, r.drop s5, A5, c5, ?_, hlt, hd2, ⟨e2.out.1.drop s5, f2.out, q2⟩, ⟨q1⟩, ⟨q3⟩, ⟨fun ad ea hn => ?_⟩, ⟨?_⟩, ⟨HBx⟩⟩
            · rfl
            · obtain ⟨ad0, ea0, eb0⟩ := q4 ad ea hn
              rw [eb0]; exact e4.out ad0 ea0 (drop_pos hn)
            · exact Kd.R_mono (Kd.R_step hty'.out (fun q hq hlt => q7 q hlt hq.2)) (fun _ _ => trivial)
          case measure => exact meas hlt
        · obtain rfl : k = M.length := by omega
          have hT : takeN r = none := by
            cases hT : takeN r with
            | none => rfl
            | some x => have h := e1.out; rw [List.drop_length, numsL_some hT] at h; cases h
          have g5 : decide ((M.length : Int) < (M.length : Int)) = false := decide_eq_false (by omega)
          have z0 : wr.cell? ⟨Rb, 0, none⟩ = some (.slice A' r.length c') := by simp [World.cell?, show wr.heap[Rb]? = _ from e3.out]
          have hr := rtake_tells 40 r e2.out.1 (by have := e2.out.2.1; omega) (by decide)
          rw [hT] at hr
          have hr' := Aside0.mk hr
          clear hr hT hk hlt
          go_wp2_with (first
            | (go_at_call 18; refine (althingref1_Take.calls 40 A' c' r 0 0 false _ e5.out e2.out.2.2 hr'.out).mono ?_; rintro e w6 ⟨rfl, hb6⟩; have hb6' := Aside0.mk hb6; clear hb6)
            | (go_at_call 14; refine (althinglaw1_known.calls 20 true _ (known_tells 20 (by decide))).mono ?_; rintro e w7 ⟨rfl, hb7⟩; have hb7' := Aside0.mk hb7; clear hb7))
          go_ret
          exact ⟨rfl, (e7.out.trans (hb6'.out.mono e7.out.size)).trans (hb7'.out.mono (Nat.le_trans e7.out.size hb6'.out.size))⟩

set_option maxRecDepth 100000 in
theorem many (A0 : Option Addr) (c0 : Nat) (l : List Int) (A1 : Option Addr) (c1 : Nat) (t : List Int) (w : World) (h : 100 < l.length ∨ 100 < t.length) :
    Calls Try.prog 6 #[.slice A0 l.length c0, .slice A1 t.length c1] w fun e w' => e = .returned (.bool true) ∧ Below w.heap.size w w' := by
  by_cases h0 : 100 < l.length
  · have b0 : decide ((100 : Int) < (l.length : Int)) = true := decide_eq_true (by omega)
    go_enter Try.func6, Try.ntmps6
    go_wp2
    go_ret
    exact ⟨rfl, Below.refl _ _⟩
  · have b0 : decide ((100 : Int) < (l.length : Int)) = false := decide_eq_false (by omega)
    have b1 : decide ((100 : Int) < (t.length : Int)) = true := decide_eq_true (by omega)
    go_enter Try.func6, Try.ntmps6
    go_wp2
    go_ret
    exact ⟨rfl, Below.refl _ _⟩

theorem walks : Walks 6 Try.f6 := by
  intro H enc W base args ds ps hval hA _ _ hsz
  rw [Try.params6] at hA hval hsz
  obtain ⟨v0, v1, d0, d1, p0, p1, rfl, rfl, rfl, h0, h1⟩ := trodAll_two hA
  obtain ⟨A0, len0, cap0, l0, rfl, hC0, hl0, _⟩ := open_row Try.underlying32 Try.underlying3 (by kernel_rfl) (hval 0 32 v0 rfl rfl) h0
  obtain ⟨A, len, cap, l, rfl, hC, hl, hb⟩ := open_bytes (hval 1 23 v1 rfl rfl) h1
  subst hl0 hl
  by_cases h : 100 < l0.length ∨ 100 < l.length
  · exact many A0 cap0 l0 A cap l W h
  · exact walk A0 cap0 l0 A cap l W hC0.1 hC0.2 hC.1 hC.2 hb (by omega) (by omega)
set_option maxRecDepth 100000 in
theorem rowed (os : Os) (started : os.Started) (H : Type) (enc : TypeId × Value → H) :
    ReturnsInHanded {} Try.checked os 6 .any (Rows.compactNumsSpec.pre6 enc Try.prog Try.f6 Rows.compactNumsRow.domain false) (Rows.compactNumsSpec.post enc Try.prog Try.f6 false true false false) :=
  lifted (s := Rows.compactNumsSpec) Try.func6 (by kernel_rfl) (by kernel_rfl) (by kernel_rfl) (by kernel_rfl) rfl
    (fun H ds h => by
      have h' : ds.length = 2 := h
      match ds, h' with
      | [d1, d2], _ => rfl)
    os started H enc
    (ChangeSpec.witness6 (enc := enc) (C := Try.checked) false ⟨#[], #[.slice none 0 0, .slice none 0 0], []⟩ 8 (by kernel_rfl) (by kernel_rfl) (by kernel_rfl) (by kernel_rfl)) walks
theorem over : Rows.compactNumsRow.holds Try.pinned (OpenSpec.ofChange Rows.compactNumsSpec) :=
  OpenClaim.holds_of_wide 6 Try.f6 rfl rfl rfl rfl rfl rfl rfl ⟨rfl, rfl, rfl, rfl, rfl⟩ rfl rfl rfl rfl rfl (by kernel_rfl) Try.func6 (by kernel_rfl)
    (of_decide_eq_true (by kernel_rfl)) (by unfold Func.isWrapper; first | (rw [if_pos (by decide +kernel)]; kernel_rfl) | (rw [if_neg (by decide +kernel)]; exact ⟨rfl, rfl⟩))
    (fun os started H enc _ => rowed os started H enc)
end Go.Proofs.Ytdnfknphahmofaa.LawCompactNums
namespace Go.Proofs.Ytdnfknphahmofaa
/-- The row, under a short name, for the claim. -/
theorem compactNums_holds : Rows.CompactNumsSaid := LawCompactNums.over
end Go.Proofs.Ytdnfknphahmofaa

