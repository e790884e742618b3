/- blake.Hex: a digest as digits. -/
import Derived.Test.YtpcokihfecbigaaDoorBArrB
import Derived.Test.YtpcokihfecbigaaDoorBString
import Derived.Test.YtpcokihfecbigaaDoorBKeyed
namespace Go.Proofs.YtpcokihfecbigaaDoor.G
open Go.RowKit Go.Proofs.YtpcokihfecbigaaDoorW.PrintWords Go.Proofs.YtpcokihfecbigaaDoorW.PrintLast Go.Proofs.YtpcokihfecbigaaDoorW.PrintMore
set_option linter.unusedVariables false
set_option linter.unusedSimpArgs false

theorem below_step_low {B : Nat} {w0 w1 w2 w3 : World} (h1 : Below B w0 w1) (h2 : Below B w1 w2) (h3 : Below B w2 w3) : Below B w0 w3 := (h1.trans h2).trans h3
theorem below_step_low2 {A B : Nat} {w0 w3 w4 w5 : World} (h1 : Below A w0 w3) (hAB : A ≤ B) (h2 : Below B w3 w4) (h3 : Below B w4 w5) : Below A w0 w5 := (h1.trans (h2.mono hAB)).trans (h3.mono hAB)
theorem isB_used {T e B b : Nat} {bs : List Value} {w : World} (h : Lib.BuilderAt T e B b (.pointer (some ⟨b, 0, none⟩)) bs w) : Lib.IsBuilder T e B b bs w := Or.inr h
def digitB (n : Int) : UInt8 := UInt8.ofNat (if n < 10 then 48 + n.toNat else 87 + n.toNat)
def hexB (h : List Int) : List UInt8 := h.flatMap fun c => [digitB (c / 16), digitB (c % 16)]
theorem hexB_length : ∀ h : List Int, (hexB h).length = 2 * h.length
  | [] => rfl
  | c :: h => by
    have := hexB_length h
    unfold hexB at this ⊢
    simp only [List.flatMap_cons, List.length_append, List.length_cons, List.length_nil] at this ⊢
    omega
theorem hexB_step (h : List Int) (n : Nat) (hn : n < h.length) : Lib.byteCells (hexB (h.take (n + 1))) = (Lib.byteCells (hexB (h.take n)) ++ [Value.int .u8 ((digitB (h.getD n 0 / 16)).toNat : Int)]) ++ [Value.int .u8 ((digitB (h.getD n 0 % 16)).toNat : Int)] := by
  have e : h.take (n + 1) = h.take n ++ [h.getD n 0] := by
    rw [List.take_add_one, List.getD_eq_getElem?_getD, List.getElem?_eq_getElem hn]; rfl
  rw [e]
  unfold hexB
  rw [List.flatMap_append, Lib.byteCells_append]
  simp [Lib.byteCells]
theorem index_bytes {P : Program} {t e : TypeId} {n : Nat} (ht : P.underlying t = some (.array n e)) (ha : ∀ w, (isAgg e).run P w = .ok false w) (hz : ∀ w, (Go.sizeOf e).run P w = .ok 1 w) (h : List Int) (hl : h.length = n) (x : Int) (hx0 : 0 ≤ x) (hx1 : x < n) (w : World) :
    (Instr.index t (.agg (h.map (Value.int .u8)).toArray) (.int .i64 x)).run P w = .ok (.int .u8 (h.getD x.toNat 0)) w := by
  have hk : x.toNat < h.length := by omega
  simp [Instr.index, run_underlying ht, asIntOf, hx0, hx1, go_sem, hz, part, ha, hk]
def digits16 : ByteArray := ⟨#[48, 49, 50, 51, 52, 53, 54, 55, 56, 57, 97, 98, 99, 100, 101, 102]⟩
theorem digits_at (n : Nat) (hn : n < 16) : digits16[n]? = some (digitB (n : Int)) := by
  rcases n with _ | _ | _ | _ | _ | _ | _ | _ | _ | _ | _ | _ | _ | _ | _ | _ | n
  all_goals first | omega | decide +kernel
theorem index_digit {P : Program} {t : TypeId} (ht : P.underlying t = some .string) (n : Int) (h0 : 0 ≤ n) (h1 : n < 16) (w : World) :
    (Instr.index t (.string ⟨#[48, 49, 50, 51, 52, 53, 54, 55, 56, 57, 97, 98, 99, 100, 101, 102]⟩) (.int .u8 n)).run P w = .ok (.int .u8 ((digitB n).toNat : Int)) w := by
  obtain ⟨k, rfl⟩ : ∃ k : Nat, n = (k : Int) := ⟨n.toNat, by omega⟩
  have := digits_at k (by omega)
  unfold digits16 at this
  simp [Instr.index, run_underlying ht, asIntOf, h0, go_sem, this]
theorem and15 (c : Int) (h0 : 0 ≤ c) (h1 : c < 256) : Go.bits .and .u8 c 15 = c % 16 := by
  obtain ⟨k, rfl⟩ : ∃ k : Nat, c = (k : Int) := ⟨c.toNat, by omega⟩
  have : ∀ k : Fin 256, Go.bits .and .u8 (k.val : Int) 15 = (k.val : Int) % 16 := by decide +kernel
  exact this ⟨k, by omega⟩

set_option maxRecDepth 100000 in
set_option maxHeartbeats 4000000 in
theorem blake_Hex.calls (h : List Int) (w : World) (hl : h.length = 32) (hb : ∀ c ∈ h, 0 ≤ c ∧ c < 256) : Calls Tryd.prog 14 #[.agg (h.map (Value.int .u8)).toArray] w fun e w' => e = .returned (.string ⟨(hexB h).toArray⟩) ∧ Below w.heap.size w w' := by
  obtain ⟨X, hX⟩ : ∃ X, X = h.map (Value.int .u8) := ⟨_, rfl⟩
  have hXl : X.length = 32 := by rw [hX, List.length_map, hl]
  have hXo : ∀ v ∈ X, v.oneCell' = true := by rw [hX]; exact one_of_map _
  have HIX := Aside0.mk (fun (x : Int) (h0 : 0 ≤ x) (h1 : x < 32) (W : World) => index_bytes (P := Tryd.prog) (t := 24) (n := 32) Tryd.underlying24 Tryd.isAgg5 Tryd.sizeOf5 h hl x h0 h1 W)
  rw [← hX] at HIX ⊢
  have HX := Aside0.mk hX
  have HXl := Aside0.mk hXl
  have HXo := Aside0.mk hXo
  have Hb := Aside0.mk hb
  have Hl := Aside0.mk hl
  have HID := Aside0.mk (fun (n : Int) (h0 : 0 ≤ n) (h1 : n < 16) (W : World) => index_digit (P := Tryd.prog) (t := 9) Tryd.underlying9 n h0 h1 W)
  clear hX hXl hXo hb hl
  go_enter Tryd.func14, Tryd.ntmps14
  go_upto_region 2 with (first
    | ((with_reducible refine gate_dst (N := 1) rfl ?_); refine box_event ?hg (N := 1) ?hd (cs := X.toArray) (t := 24) ?hr ?_; (case hd => rfl); (case hg => rfl); (case hr => first | (go_simp; done) | (go_simp; rfl)); intro g1 hg_ w1 hbox_ hb_; have G1 := Aside0.mk hg_; have R1 := Aside0.mk (rangeAt_box hbox_); have B1 := Aside0.mk hb_; have LT1 := Aside0.mk (blk_lt hbox_); clear hg_ hbox_ hb_)
    | ((with_reducible refine gate_dst (N := 3) rfl ?_); refine box_event ?hg (N := 3) ?hd (cs := #[.pointer none, .slice none 0 0]) (t := 49) ?hr ?_; (case hd => rfl); (case hg => rfl); (case hr => first | (go_simp; done) | (go_simp; rfl)); intro g3 hg_ w3 hbox_ hb_; have G3 := Aside0.mk hg_; have BX3 := Aside0.mk hbox_; have B3 := Aside0.mk hb_; clear hg_ hbox_ hb_))
  have S0 : Lib.IsBuilder 49 5 w1.heap.size g3 (Lib.byteCells (hexB (h.take 0))) w3 :=
    Or.inl ⟨by rw [G3.out]; exact Nat.le_refl _, .slice none 0 0, BX3.out, World.ownsRow_nil _ _ _ _, by simp [Value.ownBlock]⟩
  have HS0 := Aside0.mk S0
  have R3 := Aside0.mk (rangeAt_below R1.out B3.out LT1.out)
  have B03 := Aside0.mk (below_step B1.out B3.out)
  clear S0
  go_wp2_with ((with_reducible refine gate_dst (N := 6) rfl ?_); refine wpList_load_mid rfl 24 _ rfl g1 0 rfl X _ R3.out Tryd.underlying24 rfl (by rw [HXl.out]; exact size_of info_a32) ?_)
  go_loopw [7] (fun i wr => ∃ x : Int, i = .int .i64 x ∧ (0 ≤ x ∧ x ≤ 32) ∧ Aside0 (Lib.IsBuilder 49 5 w1.heap.size g3 (Lib.byteCells (hexB (h.take x.toNat))) wr) ∧ Aside0 (Below w1.heap.size w3 wr))
    (fun i _ => 32 - (intOf i).toNat)
  case atStart => exact ⟨0, rfl, ⟨by omega, by omega⟩, HS0, ⟨Below.refl _ _⟩⟩
  case round =>
  obtain ⟨x, rfl, ⟨hx0, hx1⟩, HV, HG⟩ := hrel
  by_cases hx : x < 32
  · have d1 : decide (x < 32) = true := decide_eq_true hx
    have xw : wrap64 (x + 1) = x + 1 := by unfold wrap64; omega
    obtain ⟨c, hc⟩ : ∃ c, c = h.getD x.toNat 0 := ⟨_, rfl⟩
    have hix := HIX.out x hx0 hx
    rw [← hc] at hix
    have hcb : 0 ≤ c ∧ c < 256 := by
      rw [hc]
      have hk : x.toNat < h.length := by rw [Hl.out]; omega
      rw [List.getD_eq_getElem?_getD, List.getElem?_eq_getElem hk]
      exact Hb.out _ (List.getElem_mem hk)
    obtain ⟨hi, hhi⟩ : ∃ v, c / 16 = v := ⟨_, rfl⟩
    obtain ⟨lo, hlo⟩ : ∃ v, c % 16 = v := ⟨_, rfl⟩
    have hlo2 : Go.bits .and .u8 c 15 = lo := (and15 c hcb.1 hcb.2).trans hlo
    have hid1 := HID.out hi (by omega) (by omega)
    have hid2 := HID.out lo (by omega) (by omega)
    obtain ⟨u1, hu1⟩ : ∃ v, ((digitB hi).toNat : Int) = v := ⟨_, rfl⟩
    obtain ⟨u2, hu2⟩ : ∃ v, ((digitB lo).toNat : Int) = v := ⟨_, rfl⟩
    rw [hu1] at hid1
    rw [hu2] at hid2
    have hst := hexB_step h x.toNat (by rw [Hl.out]; omega)
    rw [← hc, hhi, hlo, hu1, hu2] at hst
    have HST := Aside0.mk hst
    have hlen : (Lib.byteCells (hexB (h.take x.toNat))).length ≤ 64 := by
      rw [Lib.byteCells_length, hexB_length, List.length_take, Hl.out]; omega
    have HLN := Aside0.mk hlen
    obtain ⟨bs, hbs⟩ : ∃ bs, bs = Lib.byteCells (hexB (h.take x.toNat)) := ⟨_, rfl⟩
    rw [← hbs] at HV HST HLN
    have SZ : Aside0 (w1.heap.size ≤ wr.heap.size) := ⟨Nat.le_trans B3.out.size HG.out.size⟩
    clear hst hlen hbs hu1 hu2 hlo hc
    go_upto_region 6 with (go_at_call 22; with_reducible refine (sb_WriteByte w1.heap.size g3 _ _ _ HV.out (by have := HLN.out; omega) SZ.out).mono ?_; rintro e wa ⟨rfl, ha_, hg_⟩; have HA1 := Aside0.mk (isB_used ha_); have HB1 := Aside0.mk hg_; have SZ1 : Aside0 (w1.heap.size ≤ wa.heap.size) := ⟨Nat.le_trans SZ.out hg_.size⟩; clear ha_ hg_)
    go_wp2_with (go_at_call 22; with_reducible refine (sb_WriteByte w1.heap.size g3 _ _ _ HA1.out (by have := HLN.out; simp; omega) SZ1.out).mono ?_; rintro e wb ⟨rfl, ha_, hg_⟩; have HA2 := Aside0.mk ha_; have HB2 := Aside0.mk hg_; clear ha_ hg_)
    exact ⟨⟨x + 1, rfl, ⟨by omega, by omega⟩, by rw [show (x + 1).toNat = x.toNat + 1 by omega, HST.out]; exact ⟨Or.inr HA2.out⟩, ⟨below_step_low HG.out HB1.out HB2.out⟩⟩, by simp [intOf]; omega⟩
  · have d1 : decide (x < 32) = false := decide_eq_false hx
    have hx9 : x = 32 := by omega
    subst hx9
    have e32 : h.take (32 : Int).toNat = h := List.take_of_length_le (by rw [Hl.out]; decide)
    rw [e32] at HV
    have hne : hexB h ≠ [] := fun e => by have := hexB_length h; rw [e, Hl.out] at this; cases this
    have HNE := Aside0.mk hne
    clear hne e32 hx hx0 hx1
    go_wp2_with (go_at_call 23; with_reducible refine (sb_String w1.heap.size g3 _ _ HV.out HNE.out).mono ?_; rintro e wa ⟨rfl, hg_⟩; have HB1 := Aside0.mk hg_; clear hg_)
    go_ret
    exact ⟨rfl, below_step_low2 B03.out B1.out.size HG.out HB1.out⟩
end Go.Proofs.YtpcokihfecbigaaDoor.G
