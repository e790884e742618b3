/- strings.Fields at the text of blake's orders: ten rows of sixteen digits. -/
import Derived.Test.YtpcokihfecbigaaDoorBOrders
import Derived.Laws.Strings2
import Derived.Laws.Strings3
namespace Go.Proofs.YtpcokihfecbigaaDoor.G
open Go.RowKit Go.Proofs.YtpcokihfecbigaaDoorW.PrintWords Go.Proofs.YtpcokihfecbigaaDoorW.PrintLast Go.Proofs.YtpcokihfecbigaaDoorW.PrintMore
set_option linter.unusedVariables false
set_option linter.unusedSimpArgs false

def emptyRows : List Value := List.replicate 10 (Value.string ByteArray.empty)
theorem info_str : (Tryd.prog.info? 9).map (fun i => (i.zero, i.size, i.bytes)) = some (some (.string ByteArray.empty), 1, 16) := by kernel_rfl
theorem made_ten : madeCells #[Value.string ByteArray.empty] 10 = emptyRows.toArray := by
  apply Array.ext
  · simp [madeCells, emptyRows]
  · intro i h1 h2
    have e : emptyRows.toArray[i] = Value.string ByteArray.empty := by simp only [emptyRows, List.getElem_toArray, List.getElem_replicate]
    rw [e]
    simp [madeCells, Nat.mod_one]
theorem run_make_ten (w : World) : (Instr.makeSlice 58 (.int .i64 10) (.int .i64 10)).run Tryd.prog w = .ok (.slice (some ⟨w.heap.size, 0, none⟩) 10 10) (w.alloc (.cells emptyRows.toArray 9)) := by
  have h := run_make_row' (P := Tryd.prog) 58 9 (.string ByteArray.empty) 16 Tryd.underlying58 info_str rfl .i64 .i64 10 (by decide) (by decide) w
  rw [made_ten] at h
  exact h
/-- The rows, so many of them told. -/
def rowsTo (n : Nat) : List Value := (List.range 10).map fun j => Value.string (if j < n then rowOf j else ByteArray.empty)
theorem rowsTo_zero : rowsTo 0 = emptyRows := by rfl
theorem rowsTo_length (n : Nat) : (rowsTo n).length = 10 := by simp [rowsTo]
theorem rowsTo_set (n : Nat) (h : n < 10) : (rowsTo n).set n (.string (rowOf n)) = rowsTo (n + 1) := by
  apply List.ext_getElem (by simp [rowsTo])
  intro i h1 h2
  rw [List.getElem_set]
  have hi : i < 10 := by simpa [rowsTo] using h2
  simp only [rowsTo, List.getElem_map, List.getElem_range]
  by_cases e : n = i
  · subst e; simp
  · rw [if_neg e]
    congr 1
    by_cases hlt : i < n
    · rw [if_pos hlt, if_pos (by omega)]
    · rw [if_neg hlt, if_neg (by omega)]
def orderRows : List Value := (List.range 10).map fun j => Value.string (rowOf j)
theorem rowsTo_ten : rowsTo 10 = orderRows := by
  unfold rowsTo orderRows
  apply List.map_congr_left
  intro j hj
  rw [if_pos (List.mem_range.1 hj)]
theorem rowsTo_at (n : Nat) (h : n < 10) : (rowsTo n)[n]? = some (.string ByteArray.empty) := by
  simp [rowsTo, h]
/-- The table of spaces: what the walk reads of it. -/
def Spaces (w : World) : Prop := (∀ b : Int, (48 ≤ b ∧ b ≤ 57 ∨ 97 ≤ b ∧ b ≤ 102) → w.cell? ⟨0, b.toNat, none⟩ = some (.int .u8 0)) ∧ w.cell? ⟨0, 32, none⟩ = some (.int .u8 1)

theorem and_space : Go.bits .and .i64 0 (Go.bits .xor .i64 (if IntKind.i64.signed = true then -1 else 9223372036854775807) 1) = 0 := by decide +kernel
theorem and_more : Go.bits .and .i64 0 (Go.bits .xor .i64 (if IntKind.i64.signed = true then -1 else 9223372036854775807) 0) = 0 := by decide +kernel
theorem and_start : Go.bits .and .i64 1 (Go.bits .xor .i64 (if IntKind.i64.signed = true then -1 else 9223372036854775807) 0) = 1 := by decide +kernel

set_option maxRecDepth 100000 in
set_option maxHeartbeats 8000000 in
theorem fields_calls (S : ByteArray) (hS : S = ordersB) (w : World) (hT : Spaces w) :
    Calls Tryd.prog 26 #[.string S] w fun e w' => ∃ g, e = .returned (.slice (some ⟨g, 0, none⟩) 10 10) ∧ w'.rangeAt g 0 orderRows ∧ g < w'.heap.size ∧ Below w.heap.size w w' := by
  have hsz : S.size = 169 := by rw [hS]; exact orders_size
  have hmk : ∀ w, (Instr.makeSlice 58 (.int .i64 10) (.int .i64 10)).run Tryd.prog w = .ok (.slice (some ⟨w.heap.size, 0, none⟩) 10 10) (w.alloc (.cells emptyRows.toArray 9)) := fun w =>
    run_make_ten w
  have HS := Aside0.mk hS
  have HMK := Aside0.mk hmk
  have HT := Aside0.mk hT
  clear hS hT hmk
  go_enter Tryd.func26, Tryd.ntmps26
  go_wp2
  go_loopw [6, 3, 4, 5] (fun i n v b wr => ∃ x n0 v0 b0 : Int, i = .int .i64 x ∧ n = .int .i64 n0 ∧ v = .int .i64 v0 ∧ b = .int .u8 b0 ∧ Aside0 ((0 ≤ x ∧ x ≤ 169) ∧ n0 = (x + 16) / 17 ∧ (v0 = if x % 17 = 0 then 1 else 0) ∧ 0 ≤ b0 ∧ b0 < 128) ∧ wr = w)
    (fun i _ _ _ _ => 169 - (intOf i).toNat)
  case atStart => exact ⟨0, 0, 1, 0, rfl, rfl, rfl, rfl, ⟨⟨by omega, by omega⟩, by omega, rfl, by omega, by omega⟩, rfl⟩
  case round =>
    obtain ⟨x, n0, v0, b0, rfl, rfl, rfl, rfl, hx, rfl⟩ := hrel
    obtain ⟨⟨hx0, hx1⟩, hn, hv, hb0, hb1⟩ := hx.out
    by_cases hlt : x < 169
    · have hlt' : x < (S.size : Int) := by omega
      have d0 : decide (x < (S.size : Int)) = true := decide_eq_true hlt'
      have xw : wrap64 (x + 1) = x + 1 := by unfold wrap64; omega
      obtain ⟨c, hc⟩ : ∃ c, c = bt S x := ⟨_, rfl⟩
      have hbt : ∀ h : x.toNat < S.size, ((S[x.toNat]'h).toNat : Int) = c := fun h => by rw [hc]; exact bt_at S x h
      have hat := orders_at ⟨x.toNat, by omega⟩
      simp only [Int.toNat_of_nonneg hx0] at hat
      rw [← HS.out, ← hc] at hat
      obtain ⟨sb, hsb⟩ : ∃ s, Go.bits .or .u8 b0 c = s := ⟨_, rfl⟩
      have hsbb := or_small7 ⟨b0.toNat, by omega⟩ ⟨c.toNat, by omega⟩
      simp only [Int.toNat_of_nonneg hb0, Int.toNat_of_nonneg (show 0 ≤ c by omega)] at hsbb
      rw [hsb] at hsbb
      rcases hat with ⟨hm, hc32⟩ | ⟨hm, hcd⟩
      · subst hc32
        have hv0 : v0 = 0 := by rw [hv, if_neg (by omega)]
        subst hv0
        have hs := HT.out.2
        have Hx := Aside0.mk (show x % 17 = 16 by omega)
        have Hn := Aside0.mk hn
        have Hs := Aside0.mk hsbb
        have Hlt := Aside0.mk hlt
        clear hm hn hv hx hc hsbb hb0 hb1 hlt
        go_wp2
        have hlt := Hlt.out
        have hm := Hx.out
        have hn := Hn.out
        exact ⟨⟨x + 1, _, 1, sb, rfl, rfl, rfl, rfl, ⟨⟨by omega, by omega⟩, by rw [and_space]; unfold wrap64; omega, by rw [if_pos (by omega)], Hs.out.1, Hs.out.2⟩, trivial⟩, by simp [intOf]; omega⟩
      · have hs := HT.out.1 c hcd
        have c0 : 0 ≤ c := by omega
        have c1 : c < 256 := by omega
        have Hx := Aside0.mk (show x % 17 ≠ 16 by omega)
        have Hn := Aside0.mk hn
        have Hs := Aside0.mk hsbb
        have Hlt := Aside0.mk hlt
        by_cases hm0 : x % 17 = 0
        · have hv1 : v0 = 1 := by rw [hv, if_pos hm0]
          subst hv1
          have Hm0 := Aside0.mk hm0
          clear hm hn hv hx hc hsbb hb0 hb1 hlt hcd hm0
          go_wp2
          have hlt := Hlt.out
          have hm := Hx.out
          have hm0 := Hm0.out
          have hn := Hn.out
          exact ⟨⟨x + 1, _, 0, sb, rfl, rfl, rfl, rfl, ⟨⟨by omega, by omega⟩, by rw [and_start]; unfold wrap64; omega, by rw [if_neg (by omega)], Hs.out.1, Hs.out.2⟩, trivial⟩, by simp [intOf]; omega⟩
        · have hv1 : v0 = 0 := by rw [hv, if_neg hm0]
          subst hv1
          have Hm0 := Aside0.mk hm0
          clear hm hn hv hx hc hsbb hb0 hb1 hlt hcd hm0
          go_wp2
          have hlt := Hlt.out
          have hm := Hx.out
          have hm0 := Hm0.out
          have hn := Hn.out
          exact ⟨⟨x + 1, _, 0, sb, rfl, rfl, rfl, rfl, ⟨⟨by omega, by omega⟩, by rw [and_more]; unfold wrap64; omega, by rw [if_neg (by omega)], Hs.out.1, Hs.out.2⟩, trivial⟩, by simp [intOf]; omega⟩
    · have hlt' : ¬ x < (S.size : Int) := by omega
      have d0 : decide (x < (S.size : Int)) = false := decide_eq_false hlt'
      have hx : x = 169 := by omega
      subst hx
      have hn : n0 = 10 := by omega
      subst hn
      have d1 : decide (b0 ≥ 128) = false := decide_eq_false (by omega)
      clear hx hn hv hb0 hlt
      go_upto_region 15 with ((with_reducible refine gate_dst (N := 41) rfl ?_); refine slice_event ?hg (N := 41) ?hd (cs := emptyRows.toArray) (t := 9) (n := 10) (c := 10) ?hr ?_; (case hd => rfl); (case hg => rfl); (case hr => first | (simp [execOp, HMK.out, go_sem]; done) | (simp [execOp, HMK.out, go_sem]; rfl)); intro gA hg_ w1 hbox_ hb_; have GA := Aside0.mk hg_; have BA := Aside0.mk hbox_; have HB1 := Aside0.mk hb_; clear hg_ hbox_ hb_)
      have hA0 : w1.rangeAt gA 0 (rowsTo 0) := by rw [rowsTo_zero]; exact rangeAt_box BA.out
      have hT0 : w1.there gA 0 10 := there_box BA.out
      have hlt := blk_lt BA.out
      have HA0 := Aside0.mk hA0
      have HT0 := Aside0.mk hT0
      have HL := Aside0.mk hlt
      have hS1 := HT.out
      have HS1 : Aside0 (Spaces w1) := ⟨fun b hb => (HB1.out.cell (World.block_lt_of_cell? _ _ (HT.out.1 b hb))).trans (HT.out.1 b hb), (HB1.out.cell (World.block_lt_of_cell? _ _ HT.out.2)).trans HT.out.2⟩
      have HNE : Aside0 (gA ≠ 0) := ⟨by have := GA.out; have := World.block_lt_of_cell? _ _ HT.out.2; omega⟩
      have p0 : ∀ h : 0 < S.size, ((S[0]'h).toNat : Int) = 48 := fun h => (bt_at S 0 h).trans (by rw [HS.out]; decide +kernel)
      have p1 : w1.cell? ⟨0, 48, none⟩ = some (.int .u8 0) := HS1.out.1 48 (by omega)
      have p2 : decide ((0 : Int) < (S.size : Int)) = true := decide_eq_true (by omega)
      clear hA0 hT0 hlt hS1
      go_wp2
      go_loopw [12] (fun i wr => i = .int .i64 0 ∧ wr = w1) (fun _ _ => 0)
      case atStart => exact ⟨rfl, rfl⟩
      case round =>
        obtain ⟨rfl, rfl⟩ := hrel
        obtain ⟨wA, hwA⟩ : ∃ wA, wA = wr := ⟨_, rfl⟩
        subst hwA
        go_wp2
        go_loopw [12, 10, 11] (fun i n f wz => ∃ x n0 f0 : Int, i = .int .i64 x ∧ n = .int .i64 n0 ∧ f = .int .i64 f0 ∧ Aside0 ((0 ≤ x ∧ x ≤ 169) ∧ n0 = x / 17 ∧ f0 = 17 * (x / 17) ∧ wz.rangeAt gA 0 (rowsTo (x / 17).toNat) ∧ wz.there gA 0 10 ∧ wA.grownBy wz (some gA)))
          (fun i _ _ _ => 169 - (intOf i).toNat)
        case atStart => exact ⟨0, 0, 0, rfl, rfl, rfl, ⟨⟨by omega, by omega⟩, by omega, by omega, HA0.out, HT0.out, World.grownBy.refl _ _⟩⟩
        case round =>
          obtain ⟨x, n0, f0, rfl, rfl, rfl, hx⟩ := hrel
          obtain ⟨⟨hx0, hx1⟩, hn, hf, hR, hTh, hG⟩ := hx.out
          by_cases hlt : x < 169
          · have hlt' : x < (S.size : Int) := by omega
            have d0 : decide (x < (S.size : Int)) = true := decide_eq_true hlt'
            have xw : wrap64 (x + 1) = x + 1 := by unfold wrap64; omega
            have nw : wrap64 (n0 + 1) = n0 + 1 := by unfold wrap64; omega
            obtain ⟨c, hc⟩ : ∃ c, c = bt S x := ⟨_, rfl⟩
            have hbt : ∀ h : x.toNat < S.size, ((S[x.toNat]'h).toNat : Int) = c := fun h => by rw [hc]; exact bt_at S x h
            have hat := orders_at ⟨x.toNat, by omega⟩
            simp only [Int.toNat_of_nonneg hx0] at hat
            rw [← HS.out, ← hc] at hat
            have hcell : ∀ (b : Nat) v, wA.cell? ⟨0, b, none⟩ = some v → wr.cell? ⟨0, b, none⟩ = some v := fun b v h => (World.cell?_of_block (a := ⟨0, b, none⟩) (hG.block 0 (World.block_lt_of_cell? _ _ h) (by have := HNE.out; simp; exact fun e => this e.symm))).trans h
            rcases hat with ⟨hm, hc32⟩ | ⟨hm, hcd⟩
            · subst hc32
              have hs := hcell _ _ HS1.out.2
              obtain ⟨c1, hc1⟩ : ∃ c, c = bt S (x + 1) := ⟨_, rfl⟩
              have hbt1 : ∀ h : (x + 1).toNat < S.size, ((S[(x + 1).toNat]'h).toNat : Int) = c1 := fun h => by rw [hc1]; exact bt_at S (x + 1) h
              have hat1 := orders_at ⟨x.toNat + 1, by omega⟩
              simp only [show ((x.toNat + 1 : Nat) : Int) = x + 1 by omega] at hat1
              rw [← HS.out, ← hc1] at hat1
              have hcd1 : 48 ≤ c1 ∧ c1 ≤ 57 ∨ 97 ≤ c1 ∧ c1 ≤ 102 := by
                rcases hat1 with ⟨h, _⟩ | ⟨_, h⟩
                · omega
                · exact h
              have hs1 := hcell _ _ (HS1.out.1 c1 hcd1)
              have c10 : 0 ≤ c1 := by omega
              have c11 : c1 < 256 := by omega
              have n00 : 0 ≤ n0 := by omega
              have n01 : n0 < 10 := by omega
              have f00 : 0 ≤ f0 := by omega
              have f01 : f0 ≤ x := by omega
              have x1' : x + 1 < (S.size : Int) := by omega
              have x10 : 0 ≤ x + 1 := by omega
              have d1 : decide (x + 1 < (S.size : Int)) = true := decide_eq_true x1'
              have nn : n0.toNat = (x / 17).toNat := by omega
              have sc : wr.cell? ⟨gA, n0.toNat, none⟩ = some (.string ByteArray.empty) := by
                have := hR n0.toNat _ (by rw [nn]; exact rowsTo_at _ (by omega))
                rwa [Nat.zero_add] at this
              have sf : wr.frozen? ⟨gA, n0.toNat, none⟩ = false := by
                have := (hTh n0.toNat (by omega)).2
                rwa [Nat.zero_add] at this
              obtain ⟨sub, hsub⟩ : ∃ s, S.extract f0.toNat x.toNat = s := ⟨_, rfl⟩
              have hsub1 : sub = rowOf n0.toNat := by
                rw [← hsub, HS.out, ← rows_cut ⟨n0.toNat, by omega⟩]
                congr 1 <;> simp only <;> omega
              have HX := Aside0.mk hx.out
              have Hm := Aside0.mk hm
              have Hlt := Aside0.mk hlt
              have Hsub := Aside0.mk hsub1
              have Hn := Aside0.mk nn
              clear hm hn hf hR hTh hG hx hc hcell hlt hcd1 hat1 hc1 nn hsub1
              go_upto_region 25 with (fail)
              obtain ⟨⟨_, _⟩, hn, hf, hR, hTh, hG⟩ := HX.out
              have n0_ := arr_set_range hR (by rw [rowsTo_length]; exact hTh) n0.toNat (by rw [rowsTo_length]; omega) (.string sub)
              have e_ : (rowsTo (x / 17).toNat).set n0.toNat (.string sub) = rowsTo ((x / 17).toNat + 1) := by rw [Hsub.out, Hn.out]; exact rowsTo_set _ (by omega)
              rw [e_] at n0_
              have n1_ := there_setCell hTh gA n0.toNat (.string sub)
              have n2_ := grown_set hG n0.toNat (.string sub)
              have n3_ := (World.cell?_setCell_other wr ⟨gA, n0.toNat, none⟩ ⟨0, c1.toNat, none⟩ (.string sub) (by intro q; injection q with q1; first | exact HNE.out q1 | exact HNE.out q1.symm)).trans hs1
              generalize World.setCell _ _ _ = wB at n0_ n1_ n2_ n3_ ⊢
              have N0 := Aside0.mk n0_
              have N1 := Aside0.mk n1_
              have N2 := Aside0.mk n2_
              have Hf := Aside0.mk hf
              have Hnn := Aside0.mk hn
              clear n0_ n1_ n2_ hn hf hR hTh hG HX hs hs1 sc sf hsub
              go_wp2
              go_loopw [12] (fun i wr => i = .int .i64 (x + 1) ∧ wr = wB) (fun _ _ => 0)
              case atStart => exact ⟨rfl, rfl⟩
              case round =>
                obtain ⟨rfl, rfl⟩ := hrel
                go_wp2
                have hm := Hm.out
                have hlt := Hlt.out
                have hn := Hnn.out
                have hf := Hf.out
                have e : ((x + 1) / 17).toNat = (x / 17).toNat + 1 := by omega
                exact ⟨⟨x + 1, n0 + 1, x + 1, rfl, rfl, rfl, ⟨⟨by omega, by omega⟩, by omega, by omega, by rw [e]; exact N0.out, N1.out, N2.out⟩⟩, by simp [intOf]; omega⟩
            · have hs := hcell _ _ (HS1.out.1 c hcd)
              have c0 : 0 ≤ c := by omega
              have c1 : c < 256 := by omega
              have HX := Aside0.mk hx.out
              have Hm := Aside0.mk hm
              have Hlt := Aside0.mk hlt
              clear hm hn hf hR hTh hG hx hc hcell hcd hx1 hlt
              go_wp2
              have hm := Hm.out
              obtain ⟨⟨hx0, hx1⟩, hn, hf, hR, hTh, hG⟩ := HX.out
              have e : (x + 1) / 17 = x / 17 := by omega
              exact ⟨⟨x + 1, n0, f0, rfl, rfl, rfl, ⟨⟨by omega, by omega⟩, by omega, by omega, by rw [e]; exact hR, hTh, hG⟩⟩, by have := Hlt.out; simp [intOf]; omega⟩
          · have hlt' : ¬ x < (S.size : Int) := by omega
            have d0 : decide (x < (S.size : Int)) = false := decide_eq_false hlt'
            have hx9 : x = 169 := by omega
            subst hx9
            have hn9 : n0 = 9 := by omega
            have hf9 : f0 = 153 := by omega
            subst hn9
            subst hf9
            have sc : wr.cell? ⟨gA, 9, none⟩ = some (.string ByteArray.empty) := by
              have := hR 9 _ (rowsTo_at 9 (by omega))
              rwa [Nat.zero_add] at this
            have sf : wr.frozen? ⟨gA, 9, none⟩ = false := by
              have := (hTh 9 (by omega)).2
              rwa [Nat.zero_add] at this
            obtain ⟨sub, hsub⟩ : ∃ s, S.extract 153 169 = s := ⟨_, rfl⟩
            have hsub1 : sub = rowOf 9 := by
              rw [← hsub, HS.out]
              exact rows_cut ⟨9, by omega⟩
            have hd : decide ((153 : Int) < (S.size : Int)) = true := decide_eq_true (by omega)
            have hd2 : (153 : Int) ≤ (S.size : Int) := by omega
            have n0_ := arr_set_range hR (by rw [rowsTo_length]; exact hTh) 9 (by rw [rowsTo_length]; omega) (.string sub)
            rw [hsub1, show ((169 : Int) / 17).toNat = 9 from rfl, rowsTo_set _ (by omega), ← hsub1, rowsTo_ten] at n0_
            have n2_ := grown_set hG 9 (.string sub)
            have N0 := Aside0.mk n0_
            have N2 := Aside0.mk n2_
            clear hx hR hTh hG hsub1 n0_ n2_ hn hf
            go_wp2
            go_ret
            have hl : gA < (wr.setCell ⟨gA, 9, none⟩ (.string sub)).heap.size := Nat.lt_of_lt_of_le HL.out N2.out.size
            exact ⟨gA, rfl, N0.out, hl, (HB1.out.mono (Nat.le_refl _)).trans ⟨N2.out.os, N2.out.tape, N2.out.output, N2.out.size, fun k hk => N2.out.block k (Nat.lt_of_lt_of_le hk HB1.out.size) (by have := GA.out; simp; omega)⟩⟩
end Go.Proofs.YtpcokihfecbigaaDoor.G
