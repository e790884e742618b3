/- append(s, make([]byte, n)...): n zeros behind a row of one's own; slices.Grow of nil; slices.Concat. -/
import Derived.Test.YtilckocpgififaaDoorSuBWords
import Derived.Maps.AppendAt
import Derived.Lib.SliceRun
import Derived.Test.YtilckocpgififaaDoorSuBArr
namespace Go.Proofs.YtilckocpgififaaDoor.G
open Go.RowKit Go.Proofs.YtilckocpgififaaDoorW.PrintWords Go.Proofs.YtilckocpgififaaDoorW.PrintLast Go.Proofs.YtilckocpgififaaDoorW.PrintMore
set_option linter.unusedVariables false
set_option linter.unusedSimpArgs false

section
variable {P : Program}
theorem zeroCells_one (z : Value) (n : Nat) : Builtin.zeroCells #[z] n = (List.replicate n z).toArray := by
  apply Array.ext
  · simp [size_zeroCells]
  · intro i h1 h2
    simp [Builtin.zeroCells, Nat.mod_one]
theorem run_append_zeros_own (w : World) (base : Nat) (t ti ty e : TypeId) (i : TypeInfo) (ht : P.underlying t = some (.slice e)) (hti : P.underlying ti = some (.int .i64)) (hi : P.info? e = some i) (hz : i.zero = some (.int .u8 0))
    (hsize : i.size = 1) (hby : i.bytes = 1) (v : Value) (n : Nat) (xs : List Value) (hown : w.ownsRow base e 1 v n xs) (m : Nat) (hm : 0 < m) (hnm : n + m ≤ 1000000000) (hbase : base ≤ w.heap.size) :
    ∃ v' w', (Builtin.append_ #[t, ti] ty #[v, .int .i64 (m : Int)]).run P w = .ok v' w' ∧ w'.ownsRow base e 1 v' (n + m) (xs ++ List.replicate m (.int .u8 0)) ∧ w.grownBy w' v.ownBlock ∧
      (v'.ownBlock = v.ownBlock ∨ v'.ownBlock = some w.heap.size) := by
  have hw : IntKind.i64.wrap (m : Int) = (m : Int) := IntWalk.i64_in _ (by omega)
  have hlen : (xs ++ List.replicate m (Value.int .u8 0)).length = (n + m) * 1 := by rw [List.length_append, hown.1, List.length_replicate]; omega
  have h0 : ¬ (m : Int) < 0 := by omega
  have h48 : ¬ (281474976710656 < (m : Int)) := by omega
  have grown : ∀ (old : Nat), old < n + m → ∀ (row : Option Nat),
      (w.drew.alloc (.cells (xs.toArray ++ (List.replicate m (Value.int .u8 0)).toArray ++ Builtin.zeroCells #[.int .u8 0] (grownCap w (n + m) old e - (n + m))) e)).ownsRow base e 1
        (.slice (some ⟨w.heap.size, 0, none⟩) (n + m) (grownCap w (n + m) old e)) (n + m) (xs ++ List.replicate m (.int .u8 0)) ∧
      w.grownBy (w.drew.alloc (.cells (xs.toArray ++ (List.replicate m (Value.int .u8 0)).toArray ++ Builtin.zeroCells #[.int .u8 0] (grownCap w (n + m) old e - (n + m))) e)) row := by
    intro old ho row
    have hge := grownCap_ge w (n + m) old e
    have hcm : grownCap w (n + m) old e ≤ maxLen := grownCap_le_maxLen w (n + m) old e (by simp only [maxLen]; omega)
    refine ⟨⟨hlen, .inr ⟨w.heap.size, _, _, rfl, hbase, heap_alloc_new w.drew _, hge, hcm, ?_, ?_⟩⟩, ⟨rfl, rfl, rfl, by simp, fun k hk _ => Below.heap_alloc w.drew _ k hk⟩⟩
    · simp only [Array.size_append, List.size_toArray, size_zeroCells, hown.1, List.length_replicate]
      simp
      omega
    · simp only [Array.toList_append, List.append_assoc]
      rw [← List.append_assoc, ← hlen]
      exact List.take_left
  rcases hown.2 with ⟨rfl, rfl⟩ | ⟨g, cap, cur, rfl, hbg, hg, hnc, hcm, hcs, htake⟩
  · have hx : xs = [] := List.eq_nil_of_length_eq_zero (by simpa using hown.1)
    subst hx
    have hgr := grown 0 (by omega) (Value.ownBlock (.slice none 0 0))
    simp only [Nat.zero_add, List.nil_append, Array.empty_append] at hgr ⊢
    refine ⟨_, _, ?_, hgr.1, hgr.2, Or.inr rfl⟩
    have h63' : ¬ (9223372036854775807 < (m : Int)) := by omega
    have hfit : ¬ (281474976710656 < Builtin.nextslicecap m 0) := by rw [nextslicecap_zero hm]; omega
    have hne : m ≠ 0 := by omega
    simp [Builtin.append_, run_underlying ht, run_underlying hti, sizeOf, typeInfo, zeroValue, hi, hz, hsize, hby, asInt, asIntOf, hw, h48, h0, hne, h63', hfit, Question.forced, newRow, grownCap, run_firstCells_none, zeroCells_one]
    rw [show (Value.int .u8 0).cells = #[Value.int .u8 0] from rfl, zeroCells_one, zeroCells_one]
    congr 2
    simp
  · by_cases hroom : n + m ≤ cap
    · have hfit : n + (List.replicate m (Value.int .u8 0)).length ≤ cur.size := by rw [List.length_replicate, hcs]; omega
      have hst := run_storeCells_at P g n e (List.replicate m (Value.int .u8 0)) 0 cur w hg (by simpa using hfit) (fun v hv => by rw [List.eq_of_mem_replicate hv]; rfl)
      simp only [Nat.add_zero] at hst
      have hne : m ≠ 0 := by omega
      have hr : (Builtin.append_ #[t, ti] ty #[.slice (some ⟨g, 0, none⟩) n cap, .int .i64 (m : Int)]).run P w = .ok (.slice (some ⟨g, 0, none⟩) (n + m) cap) (w.setRow g (cur.toList.take n ++ List.replicate m (Value.int .u8 0) ++ cur.toList.drop (n + (List.replicate m (Value.int .u8 0)).length)).toArray) := by
        simp [Builtin.append_, run_underlying ht, run_underlying hti, sizeOf, typeInfo, zeroValue, hi, hz, hsize, hby, asInt, asIntOf, hw, h48, h0, hne, hroom, Addr.add_lit, zeroCells_one]
        rw [show (Value.int .u8 0).cells = #[Value.int .u8 0] from rfl, zeroCells_one, List.toList_toArray, hst]
        simp [List.append_assoc]
      refine ⟨_, _, hr, ⟨hlen, .inr ⟨g, cap, _, rfl, hbg, setRow_heap w g cur _ e _ hg, hroom, hcm, ?_, ?_⟩⟩, ⟨rfl, rfl, rfl, by simp, fun k _ hk => setRow_other w g k _ (fun e => hk (by simp [Value.ownBlock, e]))⟩, Or.inl rfl⟩
      · simp only [List.size_toArray, List.length_append, List.length_take, List.length_drop, Array.length_toList, List.length_replicate] at *
        omega
      · rw [Nat.mul_one] at htake
        rw [htake, ← hlen]
        exact List.take_left
    · have holds : ∀ j u, xs[j]? = some u → w.cell? ((⟨g, 0, none⟩ : Addr).add j) = some u := hown.cells (g := g) rfl
      have hgr := grown cap (by omega) (Value.ownBlock (.slice (some ⟨g, 0, none⟩) n cap))
      refine ⟨_, _, ?_, hgr.1, hgr.2, Or.inr rfl⟩
      have hne : m ≠ 0 := by omega
      have h63' : ¬ (9223372036854775807 < ((n : Int) + (m : Int))) := by omega
      have hfit : ¬ (281474976710656 < Builtin.nextslicecap (n + m) cap) := by
        have := growslice_fits (need := n + m) (old := cap) (bytes := 1) (by omega) (by omega)
        omega
      have hfo := run_firstCells_some (P := P) w.drew 1 n ⟨g, 0, none⟩ n cap xs hown.1 (by simpa using holds)
      simp [Builtin.append_, run_underlying ht, run_underlying hti, sizeOf, typeInfo, zeroValue, hi, hz, hsize, hby, asInt, asIntOf, hw, h48, h0, hne, hroom, h63', hfit, Question.forced, newRow, grownCap, hfo]
      rw [show (Value.int .u8 0).cells = #[Value.int .u8 0] from rfl, zeroCells_one, zeroCells_one]
      simp
/-- Behind a row of one's own: m zeros. -/
theorem zeros_event {ops : Array Oper} {rest : List Oper} {o : Oper} {a : Act} {Q : Exit → Act → World → Prop} {w0 W : World} (base : Nat) (hgd : o.guard = none) (s x : Operand) (t ti e : TypeId)
    (ho : o.op = .call { callee := .builtin .append, args := #[s, x], argTypes := #[t, ti] }) (ht : P.underlying t = some (.slice e)) (hti : P.underlying ti = some (.int .i64))
    (hinfo : (P.info? e).map (fun i => (i.zero, i.size, i.bytes)) = some (some (.int .u8 0), 1, 1)) (v : Value) (xs : List Int) (m : Nat) (mi : Int) (hmi : mi = (m : Int)) (hm : 0 < m) (hs : a.eval s = v) (hx : a.eval x = .int .i64 mi)
    (HO : Kd.R (Kd.int .u8) e W base (fun _ => True) v xs) (HB : Below base w0 W) (hbase : base ≤ W.heap.size) (hl : xs.length + m ≤ 1000000000)
    (h : ∀ v1 w1, Kd.R (Kd.int .u8) e w1 base (fun _ => True) v1 (xs ++ List.replicate m 0) → Below base w0 w1 → wpList P ops Q rest (a.put o.dst v1) w1) : wpList P ops Q (o :: rest) a W := by
  subst hmi
  obtain ⟨i, hi, hzz⟩ := Option.map_eq_some_iff.1 hinfo
  simp only [Prod.mk.injEq] at hzz
  obtain ⟨hz, hsz, hby⟩ := hzz
  have hown := Kd.own_of_R (enc := Value.int .u8) (h1 := fun _ => rfl) HO
  obtain ⟨v', w', hr, hown', hg, _⟩ := run_append_zeros_own (P := P) W base t ti o.type e i ht hti hi hz hsz hby v xs.length _ hown m hm hl hbase
  refine wpList_plain hgd fun K hK => ?_
  unfold Oper.wp execOp
  simp only [ho, resolve, invoke, builtin, Sem.run_bind, Sem.run_pure, Result.andThen_ok, List.map_toArray, List.map_cons, List.map_nil, hs, hx, hr]
  refine hK _ _ (h v' w' (Kd.R_of_own (enc := Value.int .u8) (h1 := fun _ => rfl) ?_ (fun _ _ => trivial)) (HB.grown hg hbase (fun k hk => (hown.lt k hk).1)))
  have e1 : encs (Value.int .u8) (xs ++ List.replicate m 0) = encs (Value.int .u8) xs ++ List.replicate m (Value.int .u8 0) := by simp [encs]
  rw [e1, List.length_append, List.length_replicate]
  exact hown'
end

theorem info_u8z : (Tryd.prog.info? 5).map (fun i => (i.zero, i.size, i.bytes)) = some (some (.int .u8 0), 1, 1) := by kernel_rfl
theorem R_nil (w : World) (base : Nat) : Kd.R (Kd.int .u8) 5 w base (fun _ => True) (.slice none 0 0) [] :=
  Kd.R_of_own (enc := Value.int .u8) (h1 := fun _ => rfl) (World.ownsRow_nil w base _ 1) (fun _ _ => trivial)

set_option maxRecDepth 100000 in
set_option maxHeartbeats 4000000 in
theorem grow_nil (n : Nat) (hn : n ≤ 100000000) (w : World) :
    Calls Tryd.prog 67 #[.slice none 0 0, .int .i64 (n : Int)] w fun e w' => ∃ v, e = .returned v ∧ Kd.R (Kd.int .u8) 5 w' w.heap.size (fun _ => True) v [] ∧ Below w.heap.size w w' := by
  obtain ⟨x, hx⟩ : ∃ x : Int, x = (n : Int) := ⟨_, rfl⟩
  rw [← hx]
  have x0 : ¬ x < 0 := by omega
  have d0 : decide (x < 0) = false := decide_eq_false x0
  have xw : wrap64 x = x := by unfold wrap64; omega
  by_cases hp : 0 < n
  · have x1 : x > 0 := by omega
    have d1 : decide (x > 0) = true := decide_eq_true x1
    have Hx := Aside0.mk hx
    have Hp := Aside0.mk hp
    have Hn := Aside0.mk hn
    clear hx hp hn
    go_enter Tryd.func67, Tryd.ntmps67
    go_wp2_with ((with_reducible refine gate_builtin (b := .append) (xs := #[.tmp 20, .tmp 21]) rfl ?_); at_builtin; refine Aside0.out ?_)
    refine Aside0.mk ?_
    refine zeros_event (w0 := w) w.heap.size rfl (.tmp 20) (.tmp 21) 26 3 5 rfl Tryd.underlying26 Tryd.underlying3 info_u8z (.slice none 0 0) [] n x Hx.out Hp.out rfl rfl (R_nil _ _) (Below.refl _ _) (Nat.le_refl _) (by have := Hn.out; simp only [List.length_nil]; omega) ?_
    intro v1 w1 hR_ hb_
    have HB := Aside0.mk hb_
    obtain ⟨A1, c1, hv1_, hc1_, _⟩ := Kd.R_reads hR_
    subst hv1_
    have HR := Aside0.mk hR_
    clear hR_ hb_
    go_wp2
    go_ret
    exact ⟨_, rfl, Kd.R_take HR.out (Nat.zero_le _), HB.out⟩
  · have hn0 : n = 0 := by omega
    subst hn0
    have hx0 : x = 0 := by omega
    subst hx0
    clear hx hp d0 xw x0 hn
    go_enter Tryd.func67, Tryd.ntmps67
    go_wp2
    go_ret
    exact ⟨_, rfl, R_nil _ _, Below.refl _ _⟩

/-- slices.Concat: rows, one behind the other, as a row of its own. -/
theorem concat_calls (A : Option Addr) (c : Nat) (l : List (List Int)) (w : World) (hC : Kd.C (Kd.slice 5 (Kd.int .u8)) w A l.length l) (hc : l.length ≤ c) (hl : l.length ≤ 10000000) (hs : l.flatten.length ≤ 10000000) :
    Calls Tryd.prog 50 #[.slice A l.length c] w fun e w' => ∃ v, e = .returned v ∧ Kd.R (Kd.int .u8) 5 w' w.heap.size (fun _ => True) v l.flatten ∧ Below w.heap.size w w' := by
  have hfl : ∀ k, k < l.length → (l.take (k + 1)).flatten.length = (l.take k).flatten.length + (rd_L4 l (k : Int)).length := fun k hk => by
    rw [List.take_succ_eq_append_getElem hk, List.flatten_append, List.length_append]
    congr 1
    unfold rd_L4
    rw [Int.toNat_natCast, List.getD_eq_getElem?_getD, List.getElem?_eq_getElem hk]
    simp
  have hap : ∀ k, k < l.length → (l.take (k + 1)).flatten = (l.take k).flatten ++ rd_L4 l (k : Int) := fun k hk => by
    rw [List.take_succ_eq_append_getElem hk, List.flatten_append]
    congr 1
    unfold rd_L4
    rw [Int.toNat_natCast, List.getD_eq_getElem?_getD, List.getElem?_eq_getElem hk]
    simp
  have hle : ∀ k, (l.take k).flatten.length ≤ l.flatten.length := fun k => by
    conv => rhs; rw [← List.take_append_drop k l, List.flatten_append, List.length_append]
    omega
  have HC := Aside0.mk hC
  have HFL := Aside0.mk hfl
  have HAP := Aside0.mk hap
  have HLE := Aside0.mk hle
  have HS := Aside0.mk hs
  have HLN := Aside0.mk hl
  clear hC hfl hap hle hs
  go_enter Tryd.func50, Tryd.ntmps50
  go_wp2
  go_loopw [11, 3] (fun i s wr => ∃ x s0 : Int, i = .int .i64 x ∧ s = .int .i64 s0 ∧ (0 ≤ x ∧ x ≤ l.length) ∧ Aside0 (s0 = ((l.take x.toNat).flatten.length : Int)) ∧ wr = w)
    (fun i _ _ => l.length - (intOf i).toNat)
  case atStart => exact ⟨0, 0, rfl, rfl, ⟨by omega, by omega⟩, ⟨rfl⟩, rfl⟩
  case round =>
    obtain ⟨x, s0, rfl, rfl, ⟨hx0, hx1⟩, HV, rfl⟩ := hrel
    by_cases hlt : x < l.length
    · have d0 : decide (x < (l.length : Int)) = true := decide_eq_true hlt
      have xw : wrap64 (x + 1) = x + 1 := by unfold wrap64; omega
      obtain ⟨ad, A1, c1, rfl, hcell, hc1, hC1⟩ := at_L4 HC.out x hx0 hlt
      obtain ⟨q, hq⟩ : ∃ q : Int, q = ((rd_L4 l x).length : Int) := ⟨_, rfl⟩
      have hv := HV.out
      have h1 := HFL.out x.toNat (by omega)
      rw [Int.toNat_of_nonneg hx0] at h1
      have h2 := HLE.out (x.toNat + 1)
      have hS := HS.out
      have sw : wrap64 (s0 + q) = s0 + q := by unfold wrap64; omega
      have d1 : decide (s0 + q < 0) = false := decide_eq_false (by omega)
      have hqe : s0 + q = ((l.take (x + 1).toNat).flatten.length : Int) := by rw [show (x + 1).toNat = x.toNat + 1 by omega]; omega
      have Hq := Aside0.mk hqe
      rw [hq] at sw d1
      have HQ := Aside0.mk hq
      clear hv h1 h2 hS hqe hC1 hq
      go_wp2
      exact ⟨⟨x + 1, s0 + q, by first | rfl | (rw [xw]) | (simp [xw]), by rw [HQ.out] <;> first | rfl | (rw [sw]) | (simp [sw]), ⟨by omega, by omega⟩, Hq, trivial⟩, by simp [intOf]; omega⟩
    · have d0 : decide (x < (l.length : Int)) = false := decide_eq_false hlt
      have hx : x = l.length := by omega
      subst hx
      have hv := HV.out
      rw [Int.toNat_natCast, List.take_length] at hv
      obtain ⟨N, hN⟩ : ∃ N, N = l.flatten.length := ⟨_, rfl⟩
      rw [← hN] at hv
      have hS := HS.out
      have HN : N ≤ 10000000 := by omega
      have HNN := Aside0.mk hN
      subst hv
      clear HV hN hS
      go_wp2_with (go_at_call 67; with_reducible refine (grow_nil N (by omega) _).mono ?_; rintro e w1 ⟨v1, rfl, hR_, hb_⟩; have HR1 := Aside0.mk hR_; have HB1 := Aside0.mk hb_; clear hR_ hb_)
      obtain ⟨wA, hwA⟩ : ∃ wA, wA = wr := ⟨_, rfl⟩
      subst hwA
      go_loopw [27, 6] (fun i v wr => ∃ x : Int, i = .int .i64 x ∧ (0 ≤ x ∧ x ≤ l.length) ∧ Aside0 (Kd.R (Kd.int .u8) 5 wr wA.heap.size (fun _ => True) v ((l.take x.toNat).flatten)) ∧ Aside0 (Below wA.heap.size wA wr))
        (fun i _ _ => l.length - (intOf i).toNat)
      case atStart => exact ⟨0, rfl, ⟨by omega, by omega⟩, HR1, HB1⟩
      case round =>
        obtain ⟨x, rfl, ⟨hx0, hx1⟩, HV, HB⟩ := hrel
        by_cases hlt : x < l.length
        · have d0 : decide (x < (l.length : Int)) = true := decide_eq_true hlt
          have xw : wrap64 (x + 1) = x + 1 := by unfold wrap64; omega
          obtain ⟨ad, A1, c1, rfl, hcell, hc1, hC1⟩ := at_L4 (Kd.C_below HC.out HB.out) x hx0 hlt
          obtain ⟨q, hq⟩ : ∃ q, q = (rd_L4 l x).length := ⟨_, rfl⟩
          have h1 := HFL.out x.toNat (by omega)
          rw [Int.toNat_of_nonneg hx0] at h1
          have h2 := HLE.out (x.toNat + 1)
          have hS := HS.out
          have hap := HAP.out x.toNat (by omega)
          rw [Int.toNat_of_nonneg hx0] at hap
          have hroom : ((l.take x.toNat).flatten.length + q) * 1 ≤ 140737488355328 := by omega
          have HR := Aside0.mk hroom
          have HP := Aside0.mk hap
          have HC1 := Aside0.mk hC1
          rw [← hq] at hcell hc1
          have HQ := Aside0.mk hq
          clear h1 h2 hS hap hroom hC1 hq
          go_wp2_with ((with_reducible refine gate_builtin (b := .append) (xs := #[.tmp 31, .tmp 32]) rfl ?_); at_builtin; refine Aside0.out ?_)
          refine Aside0.mk ?_
          refine Kd.R_append_row (Value.int .u8) (0 : Int) (h1 := fun _ => rfl) (w0 := wA) wA.heap.size rfl (.tmp 31) (.tmp 32) 26 5 (.int .u8 0) 1 rfl Tryd.underlying26 info_u8z rfl (by decide) _ _ (rd_L4 l x) A1 q c1 (fun _ => True) rfl rfl (fun _ _ => trivial) HV.out (by rw [HQ.out]; exact HC1.out) HB.out HB.out.size HR.out ?_
          intro v3 w3 hR_ hb_ _ _
          rw [← HP.out] at hR_
          have HR3 := Aside0.mk hR_
          have HB3 := Aside0.mk hb_
          clear hR_ hb_
          go_wp2
          exact ⟨⟨x + 1, by first | rfl | (rw [xw]) | (simp [xw]), ⟨by omega, by omega⟩, by rw [show (x + 1).toNat = x.toNat + 1 by omega]; exact HR3, HB3⟩, by simp [intOf]; omega⟩
        · have d0 : decide (x < (l.length : Int)) = false := decide_eq_false hlt
          have hx : x = l.length := by omega
          subst hx
          have hv := HV.out
          rw [Int.toNat_natCast, List.take_length] at hv
          have HV2 := Aside0.mk hv
          clear HV hv
          go_wp2
          go_ret
          exact ⟨_, rfl, HV2.out, HB.out⟩
theorem R_empty {w : World} {g base : Nat} (h : w.heap[g]? = some (.cells #[] 5 (0, 0))) (hb : base ≤ g) : Kd.R (Kd.int .u8) 5 w base (fun _ => True) (.slice (some ⟨g, 0, none⟩) 0 0) [] :=
  Kd.R_of_own (enc := Value.int .u8) (h1 := fun _ => rfl) ⟨rfl, .inr ⟨g, 0, #[], rfl, hb, h, Nat.le_refl _, by unfold maxLen; decide, rfl, rfl⟩⟩ (fun _ _ => trivial)
set_option maxRecDepth 100000 in
set_option maxHeartbeats 4000000 in
/-- slices.Clone: the same bytes as a row of one's own. -/
theorem clone_calls (A : Option Addr) (c : Nat) (l : List Int) (w : World) (hC : Kd.C (Kd.int .u8) w A l.length l) (hl : l.length ≤ 100000000) :
    Calls Tryd.prog 48 #[.slice A l.length c] w fun e w' => ∃ v, e = .returned v ∧ Kd.R (Kd.int .u8) 5 w' w.heap.size (fun _ => True) v l ∧ Below w.heap.size w w' := by
  cases A with
  | none =>
    have h0 : l = [] := by
      rcases C_cells hC with ⟨h, _⟩ | ⟨ad, e, _⟩
      · exact h
      · cases e
    subst h0
    have q : ∀ (W : World) (n c n' c' : Nat), (binOp .eql 26 (.slice none n c) (.slice none n' c')).run Tryd.prog W = .ok (.bool true) W := fun W n c n' c' => Lib.run_eql_slice_nil W _ _ none n c n' c' Tryd.underlying26
    go_enter Tryd.func48, Tryd.ntmps48
    go_wp2
    go_ret
    exact ⟨_, rfl, R_nil _ _, Below.refl _ _⟩
  | some ad =>
    have q : ∀ (W : World) (n c n' c' : Nat), (binOp .eql 26 (.slice (some ad) n c) (.slice none n' c')).run Tryd.prog W = .ok (.bool false) W := fun W n c n' c' => Lib.run_eql_slice_nil W _ _ (some ad) n c n' c' Tryd.underlying26
    have HC := Aside0.mk hC
    have HL := Aside0.mk (show ([] : List Int).length + l.length ≤ 100000000 by simpa using hl)
    clear hC hl
    go_enter Tryd.func48, Tryd.ntmps48
    go_wp2_with (first
      | ((with_reducible refine gate_dst (N := 5) rfl ?_); refine slice_event ?hg (N := 5) ?hd (cs := #[]) (t := 5) (n := 0) (c := 0) ?hr ?_; (case hd => rfl); (case hg => rfl); (case hr => first | (go_simp; done) | (go_simp; rfl)); intro g1 hg_ w1 hbox_ hb_; have G1 := Aside0.mk hg_; have BX := Aside0.mk hbox_; have HB := Aside0.mk hb_; clear hg_ hbox_ hb_)
      | ((with_reducible refine gate_builtin (b := .append) (xs := #[.tmp 5, .tmp 6]) rfl ?_); at_builtin; refine Aside0.out ?_))
    refine Aside0.mk ?_
    refine Kd.R_append_row (Value.int .u8) (0 : Int) (h1 := fun _ => rfl) (w0 := w) w.heap.size rfl (.tmp 5) (.tmp 6) 26 5 (.int .u8 0) 1 rfl Tryd.underlying26 info_u8z rfl (by decide) _ _ l (some ad) l.length c (fun _ => True) rfl rfl (fun _ _ => trivial) (R_empty BX.out (by have := G1.out; omega)) (Kd.C_below HC.out HB.out) HB.out HB.out.size (by have := HL.out; omega) ?_
    intro v3 w3 hR_ hb_ _ _
    rw [List.nil_append] at hR_
    have HR3 := Aside0.mk hR_
    have HB3 := Aside0.mk hb_
    clear hR_ hb_
    go_wp2
    go_ret
    exact ⟨_, rfl, HR3.out, HB3.out⟩
end Go.Proofs.YtilckocpgififaaDoor.G

/- An array of bytes in a block of its own (as BArr of words). -/
namespace Go.Proofs.YtilckocpgififaaDoor.G
open Go.RowKit Go.Proofs.YtilckocpgififaaDoorW.PrintWords Go.Proofs.YtilckocpgififaaDoorW.PrintLast Go.Proofs.YtilckocpgififaaDoorW.PrintMore
set_option linter.unusedVariables false
set_option linter.unusedSimpArgs false

/-- The bytes V lie in block g from its head on, and may be written. -/
structure ArrB (w : World) (g : Nat) (V : List Int) : Prop where
  range : w.rangeAt g 0 (V.map (Value.int .u8))
  there : w.there g 0 V.length
theorem ArrB.cell {w : World} {g : Nat} {V : List Int} (h : ArrB w g V) (i : Nat) (hi : i < V.length) : w.cell? ⟨g, i, none⟩ = some (.int .u8 (V.getD i 0)) := by
  have := h.range i (.int .u8 V[i]) (by simp [hi])
  rw [Nat.zero_add] at this
  rw [this, List.getD_eq_getElem?_getD, List.getElem?_eq_getElem hi]; rfl
theorem ArrB.frozen {w : World} {g : Nat} {V : List Int} (h : ArrB w g V) (i : Nat) (hi : i < V.length) : w.frozen? ⟨g, i, none⟩ = false := by
  have := (h.there i hi).2
  rwa [Nat.zero_add] at this
theorem ArrB.set {w : World} {g : Nat} {V : List Int} (h : ArrB w g V) (i : Nat) (hi : i < V.length) (x : Int) : ArrB (w.setCell ⟨g, i, none⟩ (.int .u8 x)) g (V.set i x) := by
  refine ⟨?_, ?_⟩
  · have := arr_set_range h.range (by rw [List.length_map]; exact h.there) i (by rw [List.length_map]; exact hi) (.int .u8 x)
    rw [← List.map_set] at this
    exact this
  · rw [List.length_set]
    exact World.there_setCells h.there g i [.int .u8 x]

end Go.Proofs.YtilckocpgififaaDoor.G
