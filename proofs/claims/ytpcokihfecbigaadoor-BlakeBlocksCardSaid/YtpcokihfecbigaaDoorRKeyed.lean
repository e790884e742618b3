/- the reference's Keyed: the digest of a row, with a key (laid by mkrkeyed.py) -/
import Derived.Test.YtpcokihfecbigaaDoorBArr
import Derived.Test.YtpcokihfecbigaaDoorRBlock
import Derived.Test.YtpcokihfecbigaaDoorRPlain
namespace Go.Proofs.YtpcokihfecbigaaDoor.G
open Go.RowKit Go.Proofs.YtpcokihfecbigaaDoorW.PrintWords Go.Proofs.YtpcokihfecbigaaDoorW.PrintLast Go.Proofs.YtpcokihfecbigaaDoorW.PrintMore
set_option linter.unusedVariables false
set_option linter.unusedSimpArgs false

theorem store_run {P : Program} {o : Oper} {a : Act} {w : World} {ty : TypeId} {x y : Operand} {g : Nat} {L : List Value} (ho : o.op = .store ty x y) (hx : a.eval x = .pointer (some ⟨g, 0, none⟩)) (hy : a.eval y = .agg L.toArray)
    (ht : w.there g 0 L.length) (hi : (P.info? ty).map (·.size) = some L.length) (h1 : ∀ v ∈ L, v.oneCell' = true) :
    (execOp a.eval o).run P w = .ok .skip (w.setCells g 0 L) := by
  unfold execOp
  simp only [ho, hx, hy, Instr.storeAt, Instr.sureAddr, Sem.run_bind, Sem.run_pure, Result.andThen_ok, run_storeVar_mid w g 0 ty L.toArray (by rw [List.size_toArray]; exact ht) (by rw [List.size_toArray]; exact hi) (all_oneCell_toArray h1)]
section
variable {P : Program}
theorem run_append_none (w : World) (t ti ty e : TypeId) (i : TypeInfo) (ht : P.underlying t = some (.slice e)) (hti : P.underlying ti = some (.int .i64)) (hi : P.info? e = some i) (hby : i.bytes = 1) (A : Option Addr) (n c : Nat) (hc : n ≤ c) :
    (Builtin.append_ #[t, ti] ty #[.slice A n c, .int .i64 0]).run P w = .ok (.slice A n c) w := by
  have hw : IntKind.i64.wrap 0 = 0 := by decide +kernel
  cases A <;> simp [Builtin.append_, run_underlying ht, run_underlying hti, sizeOf, typeInfo, zeroValue, hi, hby, asInt, asIntOf, hw, hc, storeCells]
/-- Behind a row of one's own: m zeros, maybe none. -/
theorem zeros_any {ops : Array Oper} {rest : List Oper} {o : Oper} {a : Act} {Q : Exit → Act → World → Prop} {w0 W : World} (base : Nat) (hgd : o.guard = none) (s x : Operand) (t ti e : TypeId)
    (ho : o.op = .call { callee := .builtin .append, args := #[s, x], argTypes := #[t, ti] }) (ht : P.underlying t = some (.slice e)) (hti : P.underlying ti = some (.int .i64))
    (hinfo : (P.info? e).map (fun i => (i.zero, i.size, i.bytes)) = some (some (.int .u8 0), 1, 1)) (A : Option Addr) (c : Nat) (xs : List Int) (m : Nat) (mi : Int) (hmi : mi = (m : Int)) (hc : xs.length ≤ c) (hs : a.eval s = .slice A xs.length c) (hx : a.eval x = .int .i64 mi)
    (HO : Kd.R (Kd.int .u8) e W base (fun _ => True) (.slice A xs.length c) xs) (HB : Below base w0 W) (hbase : base ≤ W.heap.size) (hl : xs.length + m ≤ 1000000000)
    (h : ∀ v1 w1, Kd.R (Kd.int .u8) e w1 base (fun _ => True) v1 (xs ++ List.replicate m 0) → Below base w0 w1 → wpList P ops Q rest (a.put o.dst v1) w1) : wpList P ops Q (o :: rest) a W := by
  by_cases h0 : m = 0
  · subst h0
    subst hmi
    obtain ⟨i, hi, hzz⟩ := Option.map_eq_some_iff.1 hinfo
    simp only [Prod.mk.injEq] at hzz
    obtain ⟨hz, hsz, hby⟩ := hzz
    have hr := run_append_none (P := P) W t ti o.type e i ht hti hi hby A xs.length c hc
    refine wpList_plain hgd fun K hK => ?_
    unfold Oper.wp execOp
    simp only [ho, resolve, invoke, builtin, Sem.run_bind, Sem.run_pure, Result.andThen_ok, List.map_toArray, List.map_cons, List.map_nil, hs, hx]
    rw [show ((0 : Nat) : Int) = 0 from rfl, hr]
    refine hK _ _ (h _ _ ?_ HB)
    simpa using HO
  · exact zeros_event base hgd s x t ti e ho ht hti hinfo _ xs m mi hmi (by omega) hs hx HO HB hbase hl h
end
theorem blocksR_more : ∀ (n m : Nat) (r : List Int) (at_ : Nat) (H : List Int), r.length ≤ n → n ≤ m → blocksR m r at_ H = blocksR n r at_ H
  | 0, m, r, at_, H, h, _ => by
    have : ¬ 128 < r.length := by omega
    cases m with
    | zero => rfl
    | succ m => simp only [blocksR, if_neg this]
  | n + 1, m, r, at_, H, h, hm => by
    obtain ⟨m, rfl⟩ : ∃ k, m = k + 1 := ⟨m - 1, by omega⟩
    rw [blocksR, blocksR]
    by_cases c : 128 < r.length
    · rw [if_pos c, if_pos c]
      exact blocksR_more n m _ _ _ (by rw [List.length_drop]; omega) (by omega)
    · rw [if_neg c, if_neg c]
theorem blocksR_step (r H : List Int) (at_ : Nat) (h : 128 < r.length) : blocksR r.length r at_ H = blocksR (r.drop 128).length (r.drop 128) (at_ + 128) (blockR H (r.take 128) ((at_ + 128 : Nat) : Int) false) := by
  obtain ⟨n, hn⟩ : ∃ n, r.length = n + 1 := ⟨r.length - 1, by omega⟩
  rw [hn, blocksR, if_pos h]
  exact blocksR_more _ _ _ _ _ (Nat.le_refl _) (by rw [List.length_drop]; omega)
theorem blocksR_end (r H : List Int) (at_ : Nat) (h : ¬ 128 < r.length) : blocksR r.length r at_ H = blockR H (r ++ List.replicate (128 - r.length) 0) ((at_ + r.length : Nat) : Int) true := by
  cases hn : r.length with
  | zero => rw [blocksR, hn]
  | succ n => rw [blocksR, if_neg h, hn]
def ref_keyed_r10.T : Bool × List (List Nat × List Nat) := (true, [([], []), ([], []), ([], []), ([], []), ([3], [3]), ([1, 2, 4], [1, 2, 4]), ([], []), ([6], [6]), ([0, 5, 7], [0, 5, 7]), ([8, 8, 0, 1, 2, 3, 4, 5, 6, 7, 8], [8])])
def ref_keyed_r10.B : List Nat := [0, 0, 0, 0, 8, 30, 0, 64, 255, 511]
theorem ref_keyed_r10.tab : rtab .any (opsOf Tryd.f10 10) = ref_keyed_r10.T := by kernel_rfl
theorem ref_keyed_r10.bits : waitsOk ref_keyed_r10.T.2 ref_keyed_r10.B = true := by kernel_rfl
def ref_keyed_r10.l0 : Array Bool := #[true, false, false, false, false, false, false, false, false, false]
def ref_keyed_r10.l1 : Array Bool := #[true, true, false, false, false, false, false, false, false, false]
def ref_keyed_r10.l2 : Array Bool := #[true, true, true, false, false, false, false, false, false, false]
def ref_keyed_r10.l3 : Array Bool := #[true, true, true, true, false, false, false, false, false, false]
def ref_keyed_r10.l4 : Array Bool := #[true, true, true, true, true, false, false, false, false, false]
def ref_keyed_r10.l5 : Array Bool := #[true, true, true, true, true, true, false, false, false, false]
def ref_keyed_r10.l6 : Array Bool := #[true, true, true, true, true, true, true, false, false, false]
def ref_keyed_r10.l7 : Array Bool := #[true, true, true, true, true, true, true, true, false, false]
def ref_keyed_r10.l8 : Array Bool := #[true, true, true, true, true, true, true, true, true, false]
def ref_keyed_r10.l9 : Array Bool := #[true, true, true, true, true, true, true, true, true, true]
set_option maxRecDepth 100000 in
set_option maxHeartbeats 16000000 in
theorem ref_Keyed.calls (A B : Option Addr) (ca cb : Nat) (key p : List Int) (w : World) (hK : Kd.C (Kd.int .u8) w A key.length key) (hka : key.length ≤ ca) (hP : Kd.C (Kd.int .u8) w B p.length p) (hpb : p.length ≤ cb)
    (hk1 : key.length ≤ 10000000) (hp1 : p.length ≤ 10000000) (hkb : ∀ c ∈ key, 0 ≤ c ∧ c < 256) (hpB : ∀ c ∈ p, 0 ≤ c ∧ c < 256) :
    Calls Tryd.prog 10 #[.slice A key.length ca, .slice B p.length cb] w fun e w' => e = .returned (.agg ((keyedL key p).map (Value.int .u8)).toArray) ∧ Below w.heap.size w w' := by
  obtain ⟨Z, hZ⟩ : ∃ Z, Z = zero32.map (Value.int .u8) := ⟨_, rfl⟩
  have hZl : Z.length = 32 := by rw [hZ]; rfl
  obtain ⟨Z8, hZ8⟩ : ∃ Z, Z = (List.replicate 8 (0 : Int)).map (Value.int .u64) := ⟨_, rfl⟩
  have hZ8l : Z8.length = 8 := by rw [hZ8]; rfl
  have HAL : Aside0 (∀ w, (zeroValue 24).run Tryd.prog w = .ok (.agg Z.toArray) w) := ⟨fun w => by rw [hZ]; exact zero_run info_a32 w⟩
  have HAL8 : Aside0 (∀ w, (zeroValue 41).run Tryd.prog w = .ok (.agg Z8.toArray) w) := ⟨fun w => by rw [hZ8]; exact zero_run info_a8 w⟩
  obtain ⟨k, hk⟩ : ∃ k, k = key.take 64 := ⟨_, rfl⟩
  obtain ⟨m, hmin⟩ : ∃ m : Int, min (64 : Int) (key.length : Int) = m := ⟨_, rfl⟩
  have hkl : k.length = min 64 key.length := by rw [hk, List.length_take]
  have hmt : m.toNat = k.length := by omega
  have hm0 : 0 ≤ m := by omega
  have hmc : m ≤ (ca : Int) := by omega
  have hkC : Kd.C (Kd.int .u8) w A k.length k := by
    by_cases h64 : 64 ≤ key.length
    · rw [hk]; exact Kd.C_take hK h64
    · rw [hk, List.take_of_length_le (by omega)]; exact hK
  have hk64 : k.length ≤ 64 := by omega
  have hkB : ∀ c ∈ k, 0 ≤ c ∧ c < 256 := by rw [hk]; exact fun c hc => hkb c (List.mem_of_mem_take hc)
  obtain ⟨L8, hL8⟩ : ∃ L, L = beginV.map (Value.int .u64) := ⟨_, rfl⟩
  have hL8l : L8.length = 8 := by rw [hL8]; rfl
  have hL8o : ∀ v ∈ L8, v.oneCell' = true := by rw [hL8]; exact one_of_map _
  have HBE : Aside0 (∀ w, Calls Tryd.prog 20 #[] w fun e w' => e = .returned (.agg L8.toArray) ∧ Below w.heap.size w w') := ⟨fun w => by rw [hL8]; exact ref_begin.calls w⟩
  have HBH : Aside0 (∀ w, (Instr.build 24 #[]).run Tryd.prog w = .ok (.agg Z.toArray) w) := ⟨fun w => by rw [hZ]; exact run_build w _ _ _ built_hash⟩
  have HL8 := Aside0.mk hL8
  have HL8l := Aside0.mk hL8l
  have HL8o := Aside0.mk hL8o
  have HZ := Aside0.mk hZ
  have HZl := Aside0.mk hZl
  have HZ8l := Aside0.mk hZ8l
  have HKC := Aside0.mk hkC
  have HP := Aside0.mk hP
  have Hpb := Aside0.mk hpb
  have Hk := Aside0.mk hk
  have Hk64 := Aside0.mk hk64
  have HkB := Aside0.mk hkB
  have HpB := Aside0.mk hpB
  have Hp1 := Aside0.mk hp1
  have HKE : Aside0 (keyedL key p = digestL (blocksR (keyBlock k ++ p).length (keyBlock k ++ p) 0 (beginR k.length))) := ⟨by rw [← keyed_same key p hkb hpB, hk]; rfl⟩
  clear hZ hZl hZ8 hZ8l hK hP hk hkC hL8 hL8l hL8o hkB hkb hpB hp1 hkl hpb
  go_enter Tryd.func10, Tryd.ntmps10
  go_upto_region 1 with ((with_reducible refine gate_dst (N := 4) rfl ?_); refine box_event ?hg (N := 4) ?hd (cs := Z.toArray) (t := 24) ?hr ?_; (case hd => rfl); (case hg => rfl); (case hr => first | (simp [execOp, Instr.alloc, HAL.out, newVar, newRow, go_sem]; done) | (simp [execOp, Instr.alloc, HAL.out, newVar, newRow, go_sem]; rfl)); intro g4 hg_ w1 hbox_ hb_; have G4 := Aside0.mk hg_; have T4 := Aside0.mk (there_box hbox_); have B1 := Aside0.mk hb_; have LT4 := Aside0.mk (blk_lt hbox_); clear hg_ hbox_ hb_)
  go_upto_region 3 with (fail)
  have HK1 := Aside0.mk (Kd.C_below HKC.out B1.out)
  have HP1 := Aside0.mk (Kd.C_below HP.out B1.out)
  by_cases hk0 : k.length = 0
  all_goals (
    first
      | (
        have hk0_ : k.length = 0 := hk0
        have d0 : decide ((k.length : Int) > 0) = false := decide_eq_false (by omega)
        have HK0 := Aside0.mk hk0
        go_upto_region 5 with (fail)
        obtain ⟨w4, hw4⟩ : ∃ w4, w4 = w1 := ⟨_, rfl⟩
        rw [← hw4]
        obtain ⟨v5, hv5⟩ : ∃ v : Value, v = .slice none 0 0 := ⟨_, rfl⟩
        have HA5 : Aside0 (Kd.R (Kd.int .u8) 5 w4 w1.heap.size (fun _ => True) v5 (keyBlock k)) := ⟨by rw [hv5, hw4]; unfold keyBlock; rw [if_pos HK0.out]; exact R_nil _ _⟩
        have HB5 : Aside0 (Below w1.heap.size w1 w4) := ⟨by rw [hw4]; exact Below.refl _ _⟩
        simp only [← hv5]
        clear hw4 hv5 d0 hk0)
      | (
        have hk0_ : ¬ k.length = 0 := hk0
        have d0 : decide ((k.length : Int) > 0) = true := decide_eq_true (by omega)
        go_wp2_with ((with_reducible refine gate_builtin (b := .append) (xs := #[.tmp 20, .tmp 21]) rfl ?_); at_builtin; refine Aside0.out ?_)
        refine Aside0.mk ?_
        refine Kd.R_append_row (Value.int .u8) (0 : Int) (h1 := fun _ => rfl) (w0 := w1) w1.heap.size rfl (.tmp 20) (.tmp 21) 22 5 (.int .u8 0) 1 rfl Tryd.underlying22 info_u8z rfl (by decide) _ _ k A k.length ca (fun _ => True) rfl rfl (fun _ _ => trivial) (R_nil w1 w1.heap.size) HK1.out (Below.refl _ _) (Nat.le_refl _) (by have := Hk64.out; simp; omega) ?_
        intro v2 w2 hR_ hb_ _ _
        rw [List.nil_append] at hR_
        have HR2 := Aside0.mk hR_
        have B2 := Aside0.mk hb_
        clear hR_ hb_
        go_wp2_with ((with_reducible refine gate_builtin (b := .append) (xs := #[.tmp 22, .tmp 25]) rfl ?_); at_builtin; refine Aside0.out ?_)
        refine Aside0.mk ?_
        refine zeros_event (w0 := w1) w1.heap.size rfl (.tmp 22) (.tmp 25) 22 3 5 rfl Tryd.underlying22 Tryd.underlying3 info_u8z v2 k (128 - k.length) _ ?hmi (by have := Hk64.out; omega) rfl rfl HR2.out B2.out B2.out.size (by have := Hk64.out; omega) ?_
        case hmi => have := Hk64.out; first | omega | (unfold wrap64; omega) | (rw [show (128 : Int) - (k.length : Int) = ((128 - k.length : Nat) : Int) by omega]; first | rfl | (unfold wrap64; omega))
        intro v5 w4 hR_ hb_
        have HA5 : Aside0 (Kd.R (Kd.int .u8) 5 w4 w1.heap.size (fun _ => True) v5 (keyBlock k)) := ⟨by unfold keyBlock; rw [if_neg hk0]; exact hR_⟩
        have HB5 := Aside0.mk hb_
        clear hR_ hb_ d0 hk0 hk0_ HR2 B2
        go_upto_region 5 with (fail)))
  all_goals (
    obtain ⟨all, hall⟩ : ∃ a, a = keyBlock k ++ p := ⟨_, rfl⟩
    have hkbl : (keyBlock k).length ≤ 128 := by unfold keyBlock; have := Hk64.out; split <;> simp <;> omega
    have hallB : ∀ c ∈ all, 0 ≤ c ∧ c < 256 := by
      intro c hc
      rw [hall] at hc
      rcases List.mem_append.1 hc with h | h
      · exact keyBlock_bytes k HkB.out c h
      · exact HpB.out c h
    have halll : all.length ≤ 10000128 := by rw [hall, List.length_append]; have := Hp1.out; omega
    have Hall := Aside0.mk hall
    have HallB := Aside0.mk hallB
    have Halll := Aside0.mk halll
    have Hkbl := Aside0.mk hkbl
    have HP4 := Aside0.mk (Kd.C_below HP1.out HB5.out)
    clear hall hallB halll hkbl
    go_wp2_with ((with_reducible refine gate_builtin (b := .append) (xs := #[.tmp 27, .tmp 28]) rfl ?_); at_builtin; refine Aside0.out ?_)
    refine Aside0.mk ?_
    refine Kd.R_append_row (Value.int .u8) (0 : Int) (h1 := fun _ => rfl) (w0 := w1) w1.heap.size rfl (.tmp 27) (.tmp 28) 22 5 (.int .u8 0) 1 rfl Tryd.underlying22 info_u8z rfl (by decide) _ _ p B p.length cb (fun _ => True) rfl rfl (fun _ _ => trivial) HA5.out HP4.out HB5.out HB5.out.size (by have := Hp1.out; have := Hkbl.out; omega) ?_
    intro v7 w6 hR_ hb_ _ _
    rw [← Hall.out] at hR_
    obtain ⟨A7, c7, hv7_, hc7_, hC7_⟩ := Kd.R_reads hR_
    have h7lt : ∀ ad, A7 = some ad → 0 < all.length → ad.block < w6.heap.size := fun ad e hn => by subst e; exact Kd.C_lt hC7_ hn (by decide)
    subst hv7_
    have HC7 := Aside0.mk hC7_
    have H7lt := Aside0.mk h7lt
    have B16 := Aside0.mk hb_
    have hcc7 := hc7_
    clear hR_ hb_ hC7_ h7lt hc7_ HA5 HB5
    go_upto_region 7 with (first
      | (go_at_call 20; with_reducible refine (HBE.out _).mono ?_; rintro e w7a ⟨rfl, hb_⟩; have B7a := Aside0.mk hb_; clear hb_)
      | ((with_reducible refine gate_dst (N := 7) rfl ?_); refine box_event ?hg (N := 7) ?hd (cs := Z8.toArray) (t := 41) ?hr ?_; (case hd => rfl); (case hg => rfl); (case hr => first | (simp [execOp, Instr.alloc, HAL8.out, newVar, newRow, go_sem]; done) | (simp [execOp, Instr.alloc, HAL8.out, newVar, newRow, go_sem]; rfl)); intro g7 hg_ w7 hbox_ hb_; have G7 := Aside0.mk hg_; have T7 := Aside0.mk (there_box hbox_); have B7 := Aside0.mk hb_; have LT7 := Aside0.mk (blk_lt hbox_); clear hg_ hbox_ hb_)
      | ((with_reducible refine gate_store (t := 41) (p := 7) rfl ?_); refine wpList_store_mid rfl 41 _ _ rfl g7 0 L8.toArray rfl rfl (by rw [List.size_toArray, HL8l.out, ← HZ8l.out]; exact T7.out) (by rw [List.size_toArray, HL8l.out]; exact size_of info_a8) (all_oneCell_toArray HL8o.out) ?_))
    have B67 := below_step B7a.out B7.out
    have g76 : w6.heap.size ≤ g7 := by have := G7.out; have := B7a.out.size; omega
    have n0_ := World.rangeAt_setCells_same w7 g7 0 L8 (by rw [HL8l.out, ← HZ8l.out]; exact T7.out)
    have n1_ := below_setCells g7 g76 L8 0 w7 B67
    have n2_ := World.there_setCells T7.out g7 0 L8
    generalize World.setCells _ _ _ _ = w8 at n0_ n1_ n2_ ⊢
    rw [HZ8l.out] at n2_
    rw [HL8.out] at n0_
    have aS : Arr w8 g7 beginV := ⟨n0_, n2_⟩
    obtain ⟨v_p, hv_p⟩ : ∃ v, v = beginV.getD 0 0 := ⟨_, rfl⟩
    have s0 := aS.cell 0 (by decide)
    have s1 := aS.frozen 0 (by decide)
    rw [← hv_p] at s0
    obtain ⟨sv, hsv⟩ : ∃ v, shl .u64 (wr (k.length : Int)) 8 = v := ⟨_, rfl⟩
    have hsv1 : IntKind.u64.wrap (IntKind.u64.wrap (k.length : Int) * 2 ^ 8) = sv := hsv
    have hsv2 : IntKind.u64.wrap (IntKind.u64.wrap (k.length : Int) * 256) = sv := hsv
    first
      | (have hsv3 : IntKind.u64.wrap (IntKind.u64.wrap 0 * 256) = sv := by
          rw [← hsv2, HK0.out]; rfl)
      | skip
    have Hv_p := Aside0.mk hv_p
    have Hsv := Aside0.mk hsv
    have AS := Aside0.mk aS
    have B18 := Aside0.mk (below_step B16.out n1_)
    have HC8 := Aside0.mk (Kd.C_below HC7.out n1_)
    have HF8 : Aside0 (∀ ad, A7 = some ad → 0 < all.length → ad.block ≠ g7) := ⟨fun ad e hn => by have := H7lt.out ad e hn; omega⟩
    have LT48 : Aside0 (g4 < w8.heap.size) := ⟨Nat.lt_of_lt_of_le LT4.out B18.out.size⟩
    have LT4c := Aside0.mk (there_of_below T4.out B18.out LT4.out)
    have NE4 : Aside0 (g4 ≠ g7) := ⟨by have := LT4.out; have := B16.out.size; omega⟩
    have G7n : Aside0 (w.heap.size ≤ g7) := ⟨by have := B1.out.size; have := B16.out.size; omega⟩
    clear n0_ n1_ n2_ aS B67 g76 hv_p hsv HC7 H7lt B16 B7a B7
    go_upto_region 8 with (fail)
    obtain ⟨x0, hx0_⟩ : ∃ x0, x0 = Go.bits .xor .u64 (Go.bits .xor .u64 v_p 16842784) sv := ⟨_, rfl⟩
    first
      | (rw [← hx0_])
      | (have hz_ : x0 = Go.bits .xor .u64 (Go.bits .xor .u64 v_p 16842784) 0 := by
          rw [hx0_, ← Hsv.out, HK0.out]; rfl
         rw [← hz_]
         clear hz_)
      | (have hz_ : x0 = Go.bits .xor .u64 (Go.bits .xor .u64 v_p 16842784) ((k.length : Int) * 256) := by
          have h64 := Hk64.out
          have hsk : (k.length : Int) * 256 = sv := by rw [← hsv2, IntKind.wrap_u64, IntKind.wrap_u64]; omega
          rw [hx0_, hsk]
         rw [← hz_]
         clear hz_)
    have n0_ := AS.out.set 0 (by decide) x0
    have n1_ := grown_set (World.grownBy.refl w8 (some g7)) 0 (.int .u64 x0)
    generalize World.setCell _ _ _ = w9 at n0_ n1_ ⊢
    obtain ⟨H0, hH0⟩ : ∃ H, H = beginR k.length := ⟨_, rfl⟩
    have e0 : beginV.set 0 x0 = H0 := by rw [hH0, hx0_, Hv_p.out, ← Hsv.out]; rfl
    rw [e0] at n0_
    have A9 := Aside0.mk n0_
    have HH0 := Aside0.mk hH0
    have H0l : Aside0 (H0.length = 8) := ⟨by rw [hH0]; exact beginR_length _⟩
    have HC9 := Aside0.mk (C_grown HC8.out n1_ HF8.out)
    have T9 := Aside0.mk (there_of_block LT4c.out (n1_.block g4 LT48.out (by have := NE4.out; simpa using this)))
    have B9 := Aside0.mk ((below_step B1.out B18.out).grown n1_ (below_step B1.out B18.out).size (fun j hj => by cases hj; exact G7n.out))
    have LT49 : Aside0 (g4 < w9.heap.size) := ⟨Nat.lt_of_lt_of_le LT48.out n1_.size⟩
    clear n0_ n1_ s0 s1 e0 hH0 hx0_ hsv1 hsv2 B18 HC8 LT48 LT4c
    go_wp2
    go_loopw [8] (fun i wr => ∃ x : Int, i = .int .i64 x ∧ (0 ≤ x ∧ x ≤ (all.length : Int)) ∧
        Aside0 (∃ H, H.length = 8 ∧ Arr wr g7 H ∧ blocksR (all.drop x.toNat).length (all.drop x.toNat) x.toNat H = blocksR all.length all 0 H0) ∧ Aside0 (w9.grownBy wr (some g7)))
      (fun i _ => all.length - (intOf i).toNat)
    case atStart => exact ⟨0, rfl, ⟨by omega, by omega⟩, ⟨H0, H0l.out, A9.out, rfl⟩, ⟨World.grownBy.refl _ _⟩⟩
    case round =>
      obtain ⟨x, rfl, ⟨hx0, hx1⟩, HV, HG⟩ := hrel
      obtain ⟨H, hHl, hHA, hHe⟩ := HV.out
      have hal := Halll.out
      obtain ⟨r, hr⟩ : ∃ r, r = all.drop x.toNat := ⟨_, rfl⟩
      rw [← hr] at hHe
      have hrl : r.length = all.length - x.toNat := by rw [hr, List.length_drop]
      obtain ⟨s, hs⟩ : ∃ s, wrap64 ((all.length : Int) - x) = s := ⟨_, rfl⟩
      have hs' : s = (all.length : Int) - x := by rw [← hs]; unfold wrap64; omega
      obtain ⟨i8, hi8, hsz8⟩ := info_u8s
      have hrC := C_grown HC9.out HG.out HF8.out
      by_cases hlt : s > 128
      · have d0 : decide (s > 128) = true := decide_eq_true hlt
        obtain ⟨y, hy⟩ : ∃ y, wrap64 (x + 128) = y := ⟨_, rfl⟩
        have hy' : y = x + 128 := by rw [← hy]; unfold wrap64; omega
        obtain ⟨A2, hA2⟩ : ∃ A2, A2 = if c7 = x.toNat then A7 else A7.map (·.add x.toNat) := ⟨_, rfl⟩
        obtain ⟨b, hb⟩ : ∃ b, b = (all.take y.toNat).drop x.toNat := ⟨_, rfl⟩
        have hbr : b = r.take 128 := by rw [hb, hr, List.drop_take]; congr 1; omega
        have hbl : b.length = 128 := by rw [hbr, List.length_take]; omega
        have hcut : ∀ W : World, (Instr.slice 22 (.slice A7 all.length c7) (some (.int .i64 x)) (some (.int .i64 y)) none).run Tryd.prog W = .ok (.slice A2 128 (c7 - x.toNat)) W := by
          have := cut_mid (P := Tryd.prog) 22 5 .i64 .i64 Tryd.underlying22 hi8 1 hsz8 A7 all.length c7 x y hx0 (by omega) (by omega) hcc7
          rw [show y.toNat - x.toNat = 128 by omega] at this
          rw [hA2]
          simpa using this
        have hC2 : Kd.C (Kd.int .u8) wr A2 b.length b := by
          have := Kd.C_mid (k := Kd.int .u8) (lo := x.toNat) (hi := y.toNat) hrC (by omega) (by omega) hcc7
          rw [hA2, hb]
          rw [show (Kd.int IntKind.u8).sz = 1 from rfl, Nat.mul_one] at this
          exact this
        obtain ⟨LH, hLH⟩ : ∃ L, L = H.map (Value.int .u64) := ⟨_, rfl⟩
        obtain ⟨HN, hHN⟩ : ∃ HN, HN = blockR H b y false := ⟨_, rfl⟩
        obtain ⟨LN, hLN⟩ : ∃ L, L = HN.map (Value.int .u64) := ⟨_, rfl⟩
        have hbk := ref_block.calls H b A2 (c7 - x.toNat) y false wr.drew hHl hbl (Kd.C_drew hC2) (fun c hc => HallB.out c (by rw [hb] at hc; exact List.mem_of_mem_take (List.mem_of_mem_drop hc)))
        rw [hbl, ← hHN, ← hLN, ← hLH, ← hy] at hbk
        have hcut' := hcut
        rw [← hy] at hcut'
        have HBK := Aside0.mk hbk
        have hHNl : HN.length = 8 := by rw [hHN, blockR_length, hHl]
        have hrl2 : (r.drop 128) = all.drop y.toNat := by rw [hr, List.drop_drop]; congr 1; omega
        have HE2 : Aside0 (blocksR (all.drop y.toNat).length (all.drop y.toNat) y.toNat HN = blocksR all.length all 0 H0) := ⟨by
          rw [← hHe, blocksR_step r H x.toNat (by omega), hrl2, hHN, hbr, show x.toNat + 128 = y.toNat by omega, Int.toNat_of_nonneg (by omega)]⟩
        have HLHl : Aside0 (LH.length = 8) := ⟨by rw [hLH, List.length_map, hHl]⟩
        have HI8 : Aside0 ((Tryd.prog.info? 41).map (·.size) = some LH.length) := ⟨by rw [HLHl.out]; exact size_of info_a8⟩
        have HLNl : Aside0 (LN.length = 8) := ⟨by rw [hLN, List.length_map, hHNl]⟩
        have HLNo : Aside0 (∀ v ∈ LN, v.oneCell' = true) := ⟨by rw [hLN]; exact one_of_map _⟩
        have hrg := hHA.range
        rw [← hLH] at hrg
        have HRG := Aside0.mk ((World.rangeAt_drew _ _ _ _).2 hrg)
        have HTH : Aside0 (wr.there g7 0 8) := ⟨by have := hHA.there; rwa [hHl] at this⟩
        have HLT7 : Aside0 (g7 < wr.heap.size) := ⟨hHA.lt (by omega)⟩
        have HLN := Aside0.mk hLN
        have HHNl := Aside0.mk hHNl
        have hyb : 0 ≤ y ∧ y ≤ (all.length : Int) ∧ all.length - y.toNat < all.length - x.toNat := by omega
        have HYB := Aside0.mk hyb
        clear hbk hC2 hrC hb hbr hbl hrl hrl2 hHN hLN hLH hHNl hHl hHA hHe HV hr hrg hi8 hsz8 hA2 hs' hy' hyb hal
        go_upto_region 10 with (fail)
        refine start_ (n := 10) (S := fun w' => w'.rangeAt g7 0 LH) (ds := [9]) #[false, false, false, false, false, false, false, false, false, false] (by kernel_rfl) rfl rfl HRG.out (fun hHeld => ?_)
        refine with_tabW ref_keyed_r10.tab ref_keyed_r10.bits (fun HT_ HW_ => ?_)
        refine take_ (i := 0) (N := some 45) (v := ?_) (a' := ?_) ref_keyed_r10.l0 rfl rfl (take_ofW HT_.out HW_.out (by kernel_rfl)) (fun _ _ _ h => h) (Or.inl ⟨by rfl, ?_⟩) hHeld ?_ ?_
        rotate_left
        · intro w' hs_
          have s0 := hs_
          refine load_run (ty := 41) (y := .tmp 7) (g := g7) (L := LH) ?_ ?_ s0 Tryd.underlying41 rfl HI8.out <;> rfl
        rotate_left
        · simp only [Act.put, List.setIfInBounds_toArray, List.set_cons_zero, List.set_cons_succ, i64_w, i32_w]
          rfl
        refine pure_ (i := 1) (N := some 46) (v := ?_) (a' := ?_) ref_keyed_r10.l1 rfl rfl (any_of HT_.out (by kernel_rfl)) (fun _ _ _ h => h) (Or.inl ⟨by rfl, ?_⟩) ?_ ?_
        rotate_left
        · intro w'
          go_simp
          with_reducible rfl
        rotate_left
        · simp only [Act.put, List.setIfInBounds_toArray, List.set_cons_zero, List.set_cons_succ, i64_w, i32_w]
          rfl
        refine pure_ (i := 2) (N := some 47) (v := ?_) (a' := ?_) ref_keyed_r10.l2 rfl rfl (any_of HT_.out (by kernel_rfl)) (fun _ _ _ h => h) (Or.inl ⟨by rfl, ?_⟩) ?_ ?_
        rotate_left
        · intro w'
          go_simp
          with_reducible rfl
        rotate_left
        · simp only [Act.put, List.setIfInBounds_toArray, List.set_cons_zero, List.set_cons_succ, i64_w, i32_w]
          rfl
        refine pure_ (i := 3) (N := some 48) (v := ?_) (a' := ?_) ref_keyed_r10.l3 rfl rfl (any_of HT_.out (by kernel_rfl)) (fun _ _ _ h => h) (Or.inl ⟨by rfl, ?_⟩) ?_ ?_
        rotate_left
        · intro w'
          go_simp
          with_reducible rfl
        rotate_left
        · simp only [Act.put, List.setIfInBounds_toArray, List.set_cons_zero, List.set_cons_succ, i64_w, i32_w]
          rfl
        refine pure_ (i := 4) (N := some 49) (v := ?_) (a' := ?_) ref_keyed_r10.l4 rfl rfl (any_of HT_.out (by kernel_rfl)) (fun _ _ _ h => h) (Or.inl ⟨by rfl, ?_⟩) ?_ ?_
        rotate_left
        · intro w'
          go_simp
          with_reducible rfl
        rotate_left
        · simp only [Act.put, List.setIfInBounds_toArray, List.set_cons_zero, List.set_cons_succ, i64_w, i32_w]
          rfl
        refine pure_ (i := 5) (N := some 50) (v := ?_) (a' := ?_) ref_keyed_r10.l5 rfl rfl (any_of HT_.out (by kernel_rfl)) (fun _ _ _ h => h) (Or.inl ⟨by rfl, ?_⟩) ?_ ?_
        rotate_left
        · intro w'
          go_simp
          with_reducible rfl
        rotate_left
        · simp only [Act.put, List.setIfInBounds_toArray, List.set_cons_zero, List.set_cons_succ, i64_w, i32_w]
          rfl
        refine pure_ (i := 6) (N := some 51) (v := ?_) (a' := ?_) ref_keyed_r10.l6 rfl rfl (any_of HT_.out (by kernel_rfl)) (fun _ _ _ h => h) (Or.inl ⟨by rfl, ?_⟩) ?_ ?_
        rotate_left
        · intro w'
          go_simp
          with_reducible rfl
        rotate_left
        · simp only [Act.put, List.setIfInBounds_toArray, List.set_cons_zero, List.set_cons_succ, i64_w, i32_w]
          rfl
        refine pure_ (i := 7) (N := some 52) (v := ?_) (a' := ?_) ref_keyed_r10.l7 rfl rfl (any_of HT_.out (by kernel_rfl)) (fun _ _ _ h => h) (Or.inl ⟨by rfl, ?_⟩) ?_ ?_
        rotate_left
        · intro w'
          go_simp
          with_reducible rfl
        rotate_left
        · simp only [Act.put, List.setIfInBounds_toArray, List.set_cons_zero, List.set_cons_succ, i64_w, i32_w]
          rfl
        refine one_ (i := 8) (N := some 53) ref_keyed_r10.l8 rfl rfl (one_of HT_.out (by kernel_rfl)) (by decide) (fun K hK => ?_)
        refine goes_ Tryd.func21 (by kernel_rfl) rfl #[.agg LH.toArray, .slice A2 128 (c7 - x.toNat), .int .i64 (wrap64 (x + 128)), .bool false] (by rfl) rfl rfl (by (try simp only [List.map_toArray, List.map_cons, List.map_nil]); first | done | rfl) ?_
        refine (HBK.out).mono ?_
        rintro e wn ⟨rfl, hb_⟩
        have HBN := Aside0.mk hb_
        have HTN : Aside0 (wn.there g7 0 8) := ⟨there_of_below (w := wr.drew) ((World.there_drew _ _ _ _).2 HTH.out) hb_ HLT7.out⟩
        clear hb_
        refine ⟨_, rfl, ?_⟩
        refine hK.out _ _ (rangeAt_below hHeld HBN.out HLT7.out) (fun hHeld => ?_)
        clear hK K
        refine norm_ (a' := ?_) ?_ ?_
        rotate_left
        · show Act.put _ (some 53) _ = _
          simp only [Act.put, List.setIfInBounds_toArray, List.set_cons_zero, List.set_cons_succ, i64_w, i32_w]
          rfl
        refine last_ (i := 9) (N := none) ref_keyed_r10.l9 rfl rfl (one_of HT_.out (by kernel_rfl)) (by decide) (fun K hK => ?_)
        clear hHeld
        refine skip_ (w1 := wn.setCells g7 0 LN) (by rfl) rfl ?_ ?_
        · exact store_run (x := .tmp 7) (y := .tmp 53) rfl rfl rfl (by rw [HLNl.out]; exact HTN.out) (by rw [HLNl.out]; exact size_of info_a8) HLNo.out
        refine hK.out _ _ ?_
        clear hK K
        refine done_ (done_of HT_.out (by kernel_rfl)) ?_
        clear HT_ HW_
        have n0_ := World.rangeAt_setCells_same wn g7 0 LN (by rw [HLNl.out]; exact HTN.out)
        have n1_ := grown_setCells (g := g7) 0 LN (grown_below (grown_drew HG.out) HBN.out)
        have n2_ := World.there_setCells HTN.out g7 0 LN
        generalize World.setCells _ _ _ _ = wq at n0_ n1_ n2_ ⊢
        rw [HLN.out] at n0_
        have HAQ : Aside0 (Arr wq g7 HN) := ⟨n0_, by rw [HHNl.out]; exact n2_⟩
        have HGQ := Aside0.mk n1_
        clear n0_ n1_ n2_
        go_wp2
        exact ⟨⟨y, by rw [hy], ⟨HYB.out.1, HYB.out.2.1⟩, ⟨HN, HHNl.out, HAQ.out, HE2.out⟩, HGQ⟩, by simp only [intOf]; rw [hy]; exact HYB.out.2.2⟩
      · have d0 : decide (s > 128) = false := decide_eq_false hlt
        obtain ⟨A2, hA2⟩ : ∃ A2, A2 = if c7 = x.toNat then A7 else A7.map (·.add x.toNat) := ⟨_, rfl⟩
        have hcut : ∀ W : World, (Instr.slice 22 (.slice A7 all.length c7) (some (.int .i64 x)) none none).run Tryd.prog W = .ok (.slice A2 r.length (c7 - x.toNat)) W := by
          have := cut_from (P := Tryd.prog) 22 5 .i64 Tryd.underlying22 hi8 1 hsz8 A7 all.length c7 x hx0 (by omega)
          rw [← hrl] at this
          rw [hA2]
          simpa using this
        have hC2 : Kd.C (Kd.int .u8) wr A2 r.length r := by
          have := Kd.C_drop (k := Kd.int .u8) (m := x.toNat) hrC (by omega) hcc7
          rw [hA2, hr]
          rw [show (Kd.int IntKind.u8).sz = 1 from rfl, Nat.mul_one] at this
          exact this
        obtain ⟨wA, hwA⟩ : ∃ wA, wA = wr := ⟨_, rfl⟩
        subst hwA
        have HC2 := Aside0.mk hC2
        obtain ⟨r1, hr1⟩ : ∃ r1, r1 = r ++ List.replicate (128 - r.length) 0 := ⟨_, rfl⟩
        have hr1l : r1.length = 128 := by rw [hr1, List.length_append, List.length_replicate]; omega
        have hr1B : ∀ c ∈ r1, 0 ≤ c ∧ c < 256 := fun c hc => by
          rw [hr1] at hc
          rcases List.mem_append.1 hc with h | h
          · exact HallB.out c (by rw [hr] at h; exact List.mem_of_mem_drop h)
          · rw [List.eq_of_mem_replicate h]; omega
        obtain ⟨HN, hHN⟩ : ∃ HN, HN = blockR H r1 (all.length : Int) true := ⟨_, rfl⟩
        have HE2 : Aside0 (HN = blocksR all.length all 0 H0) := ⟨by
          rw [← hHe, blocksR_end r H x.toNat (by omega), hHN, hr1, show x.toNat + r.length = all.length by omega]⟩
        obtain ⟨LH, hLH⟩ : ∃ L, L = H.map (Value.int .u64) := ⟨_, rfl⟩
        obtain ⟨LN, hLN⟩ : ∃ L, L = HN.map (Value.int .u64) := ⟨_, rfl⟩
        have HBK : Aside0 (∀ (W : World) (A1 : Option Addr) (c1 : Nat), Kd.C (Kd.int .u8) W A1 r1.length r1 → Calls Tryd.prog 21 #[.agg LH.toArray, .slice A1 r1.length c1, .int .i64 (all.length : Int), .bool true] W fun e w' => e = .returned (.agg LN.toArray) ∧ Below W.heap.size W w') :=
          ⟨fun W A1 c1 hC => by rw [hLH, hLN, hHN]; exact ref_block.calls H r1 A1 c1 (all.length : Int) true W hHl hr1l hC hr1B⟩
        have hHNl : HN.length = 8 := by rw [hHN, blockR_length, hHl]
        have HLHl : Aside0 (LH.length = 8) := ⟨by rw [hLH, List.length_map, hHl]⟩
        have HLNl : Aside0 (LN.length = 8) := ⟨by rw [hLN, List.length_map, hHNl]⟩
        have HLNo : Aside0 (∀ v ∈ LN, v.oneCell' = true) := ⟨by rw [hLN]; exact one_of_map _⟩
        have hrg := hHA.range
        rw [← hLH] at hrg
        have HRG := Aside0.mk hrg
        have HTH : Aside0 (wA.there g7 0 8) := ⟨by have := hHA.there; rwa [hHl] at this⟩
        have HLT7 : Aside0 (g7 < wA.heap.size) := ⟨hHA.lt (by omega)⟩
        have HLN := Aside0.mk hLN
        have HHNl := Aside0.mk hHNl
        have HR1 := Aside0.mk hr1
        have HRL : Aside0 (r.length ≤ 128) := ⟨by omega⟩
        have H9g := Aside0.mk (below_grown (Below.refl wA.heap.size wA) (some g7))
        clear hrC hr hHN hLN hLH hHNl hHl hHA hHe HV hrg hi8 hsz8 hA2 hs' hr1 hr1l hr1B hal hrl hC2 hlt
        go_wp2_with (first
          | ((with_reducible refine gate_dst (N := 56) rfl ?_); refine slice_event ?hg (N := 56) ?hd (cs := #[]) (t := 5) (n := 0) (c := 0) ?hr ?_; (case hd => rfl); (case hg => rfl); (case hr => first | (go_simp; done) | (go_simp; rfl)); intro g56 hg_ wB hbox_ hb_; have G56 := Aside0.mk hg_; have BX := Aside0.mk hbox_; have HBB := Aside0.mk hb_; clear hg_ hbox_ hb_)
          | ((with_reducible refine gate_builtin (b := .append) (xs := #[.tmp 56, .tmp 59]) rfl ?_); at_builtin; refine Aside0.out ?_))
        refine Aside0.mk ?_
        refine Kd.R_append_row (Value.int .u8) (0 : Int) (h1 := fun _ => rfl) (w0 := wA) wA.heap.size rfl (.tmp 56) (.tmp 59) 22 5 (.int .u8 0) 1 rfl Tryd.underlying22 info_u8z rfl (by decide) _ _ r A2 r.length _ (fun _ => True) rfl rfl (fun _ _ => trivial) (R_empty BX.out (by have := G56.out; omega)) (Kd.C_below HC2.out HBB.out) HBB.out HBB.out.size (by have := HRL.out; simp; omega) ?_
        intro vC wC hR_ hb_ _ _
        rw [List.nil_append] at hR_
        obtain ⟨AC, cC, hvC_, hcC_, hCC_⟩ := Kd.R_reads hR_
        subst hvC_
        have HRC := Aside0.mk hR_
        have HBC := Aside0.mk hb_
        have HcC := Aside0.mk hcC_
        clear hR_ hb_ hcC_ hCC_ BX HBB HC2
        go_wp2_with ((with_reducible refine gate_builtin (b := .append) (xs := #[.tmp 61, .tmp 64]) rfl ?_); at_builtin; refine Aside0.out ?_)
        refine Aside0.mk ?_
        refine zeros_any (w0 := wA) wA.heap.size rfl (.tmp 61) (.tmp 64) 22 3 5 rfl Tryd.underlying22 Tryd.underlying3 info_u8z AC cC r (128 - r.length) _ ?hmi HcC.out rfl rfl HRC.out HBC.out HBC.out.size (by have := HRL.out; omega) ?_
        case hmi => have := HRL.out; first | omega | (unfold wrap64; omega) | (rw [show (128 : Int) - (r.length : Int) = ((128 - r.length : Nat) : Int) by omega]; first | rfl | (unfold wrap64; omega))
        intro vD wD hR_ hb_
        rw [← HR1.out] at hR_
        obtain ⟨AD, cD, hvD_, hcD_, hCD_⟩ := Kd.R_reads hR_
        subst hvD_
        have HCD := Aside0.mk hCD_
        have HBD := Aside0.mk hb_
        have HRGD := Aside0.mk (rangeAt_below HRG.out hb_ HLT7.out)
        have HBK2 := Aside0.mk (HBK.out wD AD cD hCD_)
        clear hR_ hb_ hcD_ hCD_
        go_upto_region 15 with (first
          | ((with_reducible refine gate_dst (N := 66) rfl ?_); refine wpList_load_mid rfl 41 _ rfl g7 0 rfl LH _ HRGD.out Tryd.underlying41 rfl (by rw [HLHl.out]; exact size_of info_a8) ?_)
          | (go_at_call 21; with_reducible refine HBK2.out.mono ?_; rintro e w11 ⟨rfl, hb_⟩; have HB11 := Aside0.mk (below_step HBD.out hb_); have HTN := Aside0.mk (there_of_below HTH.out HB11.out HLT7.out); clear hb_)
          | ((with_reducible refine gate_store (t := 41) (p := 7) rfl ?_); refine wpList_store_mid rfl 41 _ _ rfl g7 0 LN.toArray rfl rfl (by rw [List.size_toArray, HLNl.out]; exact HTN.out) (by rw [List.size_toArray, HLNl.out]; exact size_of info_a8) (all_oneCell_toArray HLNo.out) ?_))
        have n0_ := World.rangeAt_setCells_same w11 g7 0 LN (by rw [HLNl.out]; exact HTN.out)
        have n1_ := grown_setCells (g := g7) 0 LN (grown_below HG.out HB11.out)
        have n2_ := World.there_setCells HTN.out g7 0 LN
        generalize World.setCells _ _ _ _ = w9z at n0_ n1_ n2_ ⊢
        rw [HLN.out] at n0_
        obtain ⟨HF, hHF⟩ : ∃ HF, HF = HN := ⟨_, rfl⟩
        have HA9 : Aside0 (Arr w9z g7 HF) := ⟨by rw [hHF]; exact n0_, by rw [hHF, HHNl.out]; exact n2_⟩
        have HHl2 : Aside0 (HF.length = 8) := ⟨by rw [hHF]; exact HHNl.out⟩
        have HE3 : Aside0 (HF = blocksR all.length all 0 H0) := ⟨by rw [hHF]; exact HE2.out⟩
        have HG9 := Aside0.mk n1_
        clear n0_ n1_ n2_ hHF HBK HBK2 HE2 HRGD HRG HTN HTH HB11 HBD HCD HBC HRC HG HR1
        go_upto_region 16 with (first
          | ((with_reducible refine gate_dst (N := 71) rfl ?_); refine Kd.event_run (v := .agg Z.toArray) (w1 := w9z) rfl (build_run0 rfl (HBH.out _)) ?_)
          | ((with_reducible refine gate_dst (N := 10) rfl ?_); refine box_event ?hg (N := 10) ?hd (cs := Z.toArray) (t := 24) ?hr ?_; (case hd => rfl); (case hg => rfl); (case hr => first | (simp [execOp, Instr.alloc, HAL.out, newVar, newRow, go_sem]; done) | (simp [execOp, Instr.alloc, HAL.out, newVar, newRow, go_sem]; rfl)); intro g10 hg_ w10 hbox_ hb_; have G10 := Aside0.mk hg_; have T10 := Aside0.mk (there_box hbox_); have B10 := Aside0.mk hb_; have LT10 := Aside0.mk (blk_lt hbox_); clear hg_ hbox_ hb_)
          | ((with_reducible refine gate_store (t := 24) (p := 10) rfl ?_); refine wpList_store_mid rfl 24 _ _ rfl g10 0 Z.toArray rfl rfl (by rw [List.size_toArray]; exact T10.out) (by rw [List.size_toArray, HZl.out]; exact size_of info_a32) (all_oneCell_toArray (by rw [HZ.out]; exact one_of_map _)) ?_))
        have n0_ := World.rangeAt_setCells_same w10 g10 0 Z T10.out
        have n1_ := below_setCells g10 (by have := G10.out; omega) Z 0 w10 B10.out
        have n2_ := World.there_setCells T10.out g10 0 Z
        generalize World.setCells _ _ _ _ = w11 at n0_ n1_ n2_ ⊢
        rw [HZl.out] at n2_
        have AB0 : ArrB w11 g10 (digestTo HF 0) := ⟨by rw [digestTo_zero, ← HZ.out]; exact n0_, by rw [digestTo_length]; exact n2_⟩
        have HAB0 := Aside0.mk AB0
        have A11 := Aside0.mk (HA9.out.below n1_ (HA9.out.lt (by rw [HHl2.out]; decide)))
        have lt49 : g4 < w9z.heap.size := Nat.lt_of_lt_of_le LT49.out HG9.out.size
        have t9 := there_of_block T9.out (HG9.out.block g4 LT49.out (by have := NE4.out; simpa using this))
        have T11 := Aside0.mk (there_of_below t9 n1_ lt49)
        have ne74 : g10 ≠ g4 := by have := G10.out; omega
        have ne7S : g10 ≠ g7 := by have := G10.out; have := HA9.out.lt (by rw [HHl2.out]; decide); omega
        have NE74 := Aside0.mk ne74
        have NE7S := Aside0.mk ne7S
        have LT411 : Aside0 (g4 < w11.heap.size) := ⟨Nat.lt_of_lt_of_le lt49 n1_.size⟩
        have B11 := Aside0.mk (below_step (B9.out.grown HG9.out B9.out.size (fun j hj => by cases hj; exact G7n.out)) n1_)
        have G10n : Aside0 (w.heap.size ≤ g10) := ⟨by have := G10.out; have := B9.out.size; have := HG9.out.size; omega⟩
        clear n0_ n1_ n2_ AB0 lt49 t9 ne74 ne7S
        go_wp2
        go_loopw [11] (fun i wr => ∃ x : Int, i = .int .i64 x ∧ (0 ≤ x ∧ x ≤ 32) ∧ Aside0 (ArrB wr g10 (digestTo HF x.toNat)) ∧ Aside0 (w11.grownBy wr (some g10)))
          (fun i _ => 32 - (intOf i).toNat)
        case atStart => exact ⟨0, rfl, ⟨by omega, by omega⟩, HAB0, ⟨World.grownBy.refl _ _⟩⟩
        case round =>
        obtain ⟨x, rfl, ⟨hx0, hx1⟩, HV, HG2⟩ := hrel
        by_cases hx : x < 32
        · have d1 : decide (x < 32) = true := decide_eq_true hx
          have xw : wrap64 (x + 1) = x + 1 := by unfold wrap64; omega
          obtain ⟨y, hy⟩ : ∃ y, x.tdiv 8 = y := ⟨_, rfl⟩
          obtain ⟨z, hz⟩ : ∃ z, x.tmod 8 = z := ⟨_, rfl⟩
          have hy' : y = x / 8 := by rw [← hy, Int.tdiv_eq_ediv_of_nonneg hx0]
          have hz' : z = x % 8 := by rw [← hz, Int.tmod_eq_emod_of_nonneg hx0]
          obtain ⟨n8, hn8⟩ : ∃ n, 8 * z = n := ⟨_, rfl⟩
          have y0 : 0 ≤ y := by omega
          have y1 : y < 8 := by omega
          have yw : wrap64 y = y := by unfold wrap64; omega
          have zw : wrap64 z = z := by unfold wrap64; omega
          have nw : wrap64 n8 = n8 := by unfold wrap64; omega
          have nwu : IntKind.u64.wrap n8 = n8 := by rw [IntKind.wrap_u64]; omega
          have n8a : 0 ≤ n8 := by omega
          have n8b : n8 ≤ 64 := by omega
          have yk : y.toNat = x.toNat / 8 := by omega
          have nk : n8 = 8 * ((x.toNat % 8 : Nat) : Int) := by omega
          obtain ⟨v_q, hv_q⟩ : ∃ v, v = HF.getD y.toNat 0 := ⟨_, rfl⟩
          obtain ⟨sv2, hsv2⟩ : ∃ v, shr .u64 v_q n8 = v := ⟨_, rfl⟩
          have hsv3 : v_q / 2 ^ min n8.toNat 64 = sv2 := hsv2
          have hsv4 : v_q / 2 ^ n8.toNat = sv2 := shr_small hsv2 n8b
          have aS2 := A11.out.grown (by rw [HHl2.out]; decide) HG2.out (by have := NE7S.out; simpa using this.symm)
          have s0 := aS2.cell y.toNat (by rw [HHl2.out]; omega)
          rw [← hv_q] at s0
          have s1 := HV.out.cell x.toNat (by rw [digestTo_length]; omega)
          have s2 := HV.out.frozen x.toNat (by rw [digestTo_length]; omega)
          obtain ⟨bo, hbo⟩ : ∃ b, b = IntKind.u8.wrap sv2 := ⟨_, rfl⟩
          have hb2 : bo = outB HF x.toNat := by rw [hbo, ← hsv2, hv_q, yk, nk]; rfl
          have n0_ := HV.out.set x.toNat (by rw [digestTo_length]; omega) bo
          rw [hb2, digestTo_set _ _ (by omega), ← hb2] at n0_
          have n1_ := grown_set HG2.out x.toNat (.int .u8 bo)
          have N0 := Aside0.mk n0_
          have N1 := Aside0.mk n1_
          have hbo' := hbo.symm
          clear hv_q hsv2 aS2 HV hbo hb2 n0_ n1_ yk nk hy' hz'
          go_wp2
          exact ⟨⟨x + 1, rfl, ⟨by omega, by omega⟩, by rw [show (x + 1).toNat = x.toNat + 1 by omega]; exact N0, N1⟩, by simp [intOf]; omega⟩
        · have d1 : decide (x < 32) = false := decide_eq_false hx
          have hx9 : x = 32 := by omega
          subst hx9
          have hv := HV.out
          rw [show (32 : Int).toNat = 32 from rfl, digestTo_all] at hv
          obtain ⟨L, hL⟩ : ∃ L, L = (digestL HF).map (Value.int .u8) := ⟨_, rfl⟩
          have hLl : L.length = 32 := by rw [hL]; simp [digestL]
          have hLo : ∀ v ∈ L, v.oneCell' = true := by rw [hL]; exact one_of_map _
          have hR := hv.range
          rw [← hL] at hR
          have HR2 := Aside0.mk hR
          have HLl := Aside0.mk hLl
          have HLo := Aside0.mk hLo
          have HLe := Aside0.mk hL
          have t4 := there_of_block T11.out (HG2.out.block g4 LT411.out (by have := NE74.out; simpa using this.symm))
          have T12 := Aside0.mk t4
          have B12 := Aside0.mk (B11.out.grown HG2.out B11.out.size (fun j hj => by cases hj; exact G10n.out))
          clear hR hLl hLo hL hv HV hx hx0 hx1 t4
          go_wp2_with (first
            | ((with_reducible refine gate_dst (N := 88) rfl ?_); refine wpList_load_mid rfl 24 _ rfl g10 0 rfl L _ HR2.out Tryd.underlying24 rfl (by rw [HLl.out]; exact size_of info_a32) ?_)
            | ((with_reducible refine gate_store (t := 24) (p := 4) rfl ?_); refine wpList_store_mid rfl 24 _ _ rfl g4 0 L.toArray rfl rfl (by rw [List.size_toArray, HLl.out, ← HZl.out]; exact T12.out) (by rw [List.size_toArray, HLl.out]; exact size_of info_a32) (all_oneCell_toArray HLo.out) ?_))
          have BR := World.rangeAt_setCells_same wr g4 0 L (by rw [HLl.out, ← HZl.out]; exact T12.out)
          have hres := run_loadVar_mid (P := Tryd.prog) (wr.setCells g4 0 L) g4 0 24 L _ BR Tryd.underlying24 rfl (by rw [HLl.out]; exact size_of info_a32)
          refine bodyPost_ret (v := .agg L.toArray) (results_cell rfl _ rfl hres) rfl ?_
          refine ⟨?_, below_setCells g4 (by have := G4.out; omega) L 0 wr B12.out⟩
          rw [HLe.out, HKE.out, ← Hall.out, ← HH0.out, ← HE3.out])

set_option maxRecDepth 100000 in
set_option maxHeartbeats 4000000 in
theorem ref_Sum.calls (B : Option Addr) (cb : Nat) (p : List Int) (w : World) (hP : Kd.C (Kd.int .u8) w B p.length p) (hpb : p.length ≤ cb) (hp1 : p.length ≤ 10000000) (hpB : ∀ c ∈ p, 0 ≤ c ∧ c < 256) :
    Calls Tryd.prog 12 #[.slice B p.length cb] w fun e w' => e = .returned (.agg ((keyedL [] p).map (Value.int .u8)).toArray) ∧ Below w.heap.size w w' := by
  obtain ⟨Z, hZ⟩ : ∃ Z, Z = zero32.map (Value.int .u8) := ⟨_, rfl⟩
  have hZl : Z.length = 32 := by rw [hZ]; rfl
  have hal : ∀ w, (zeroValue 24).run Tryd.prog w = .ok (.agg Z.toArray) w := fun w => by rw [hZ]; exact zero_run info_a32 w
  obtain ⟨X, hX⟩ : ∃ X, X = (keyedL [] p).map (Value.int .u8) := ⟨_, rfl⟩
  have hXl : X.length = 32 := by rw [hX, List.length_map, keyedL_length]
  have hXo : ∀ v ∈ X, v.oneCell' = true := by rw [hX]; exact one_of_map _
  have HK : Aside0 (∀ w1, Below w.heap.size w w1 → Calls Tryd.prog 10 #[.slice none 0 0, .slice B p.length cb] w1 fun e w' => e = .returned (.agg X.toArray) ∧ Below w1.heap.size w1 w') := ⟨fun w1 hb => by
    rw [hX]
    exact ref_Keyed.calls none B 0 cb [] p w1 (Kd.C_nil _ _) (Nat.le_refl _) (Kd.C_below hP hb) hpb (by decide) hp1 (fun c hc => by cases hc) hpB⟩
  rw [← hX]
  have HZl := Aside0.mk hZl
  have HXl := Aside0.mk hXl
  have HXo := Aside0.mk hXo
  clear hX hZ hZl hXl hXo hP hpB
  go_enter Tryd.func12, Tryd.ntmps12
  go_upto_region 1 with ((with_reducible refine gate_dst (N := 2) rfl ?_); refine box_event ?hg (N := 2) ?hd (cs := Z.toArray) (t := 24) ?hr ?_; (case hd => rfl); (case hg => rfl); (case hr => first | (simp [execOp, Instr.alloc, hal, newVar, newRow, go_sem]; done) | (simp [execOp, Instr.alloc, hal, newVar, newRow, go_sem]; rfl)); intro g2 hg_ w2 hbox_ hb_; have G2 := Aside0.mk hg_; have BZ2 := Aside0.mk (there_box hbox_); have HB2 := Aside0.mk hb_; have LT2 := Aside0.mk (blk_lt hbox_); clear hg_ hbox_ hb_)
  go_wp2_with (first
    | (go_at_call 10; with_reducible refine (HK.out w2 HB2.out).mono ?_; rintro e w3 ⟨rfl, hb_⟩; have B3 := Aside0.mk hb_; have BZ3 := Aside0.mk (there_of_below BZ2.out hb_ LT2.out); clear hb_)
    | ((with_reducible refine gate_store (t := 24) (p := 2) rfl ?_); refine wpList_store_mid rfl 24 _ _ rfl g2 0 X.toArray rfl rfl (by rw [List.size_toArray, HXl.out, ← HZl.out]; exact BZ3.out) (by rw [List.size_toArray, HXl.out]; exact size_of info_a32) (all_oneCell_toArray HXo.out) ?_))
  have BR := World.rangeAt_setCells_same w3 g2 0 X (by rw [HXl.out, ← HZl.out]; exact BZ3.out)
  have hres := run_loadVar_mid (P := Tryd.prog) (w3.setCells g2 0 X) g2 0 24 X _ BR Tryd.underlying24 rfl (by rw [HXl.out]; exact size_of info_a32)
  refine bodyPost_ret (v := .agg X.toArray) (results_cell rfl _ rfl hres) rfl ?_
  exact ⟨rfl, below_setCells g2 (by have := G2.out; omega) X 0 w3 (below_step HB2.out B3.out)⟩
end Go.Proofs.YtpcokihfecbigaaDoor.G
