/- the reference's Hex: a digest as digits. -/
import Derived.Test.YtpcokihfecbigaaDoorBHex
import Derived.Laws.Strings2
import Derived.Laws.Strings3
import Derived.Laws.Concat
import Derived.Deep.RegionHeld3
namespace Go.Proofs.YtpcokihfecbigaaDoor.G
open Go.RowKit Go.Proofs.YtpcokihfecbigaaDoorW.PrintWords Go.Proofs.YtpcokihfecbigaaDoorW.PrintLast Go.Proofs.YtpcokihfecbigaaDoorW.PrintMore
set_option linter.unusedVariables false
set_option linter.unusedSimpArgs false

theorem digits_cut (n : Nat) (hn : n < 16) : digits16.extract n (n + 1) = ⟨#[digitB (n : Int)]⟩ := by
  have : ∀ n : Fin 16, digits16.extract n.val (n.val + 1) = ⟨#[digitB (n.val : Int)]⟩ := by decide +kernel
  exact this ⟨n, hn⟩
theorem slice_digit {P : Program} {t : TypeId} (ht : P.underlying t = some .string) (n : Int) (h0 : 0 ≤ n) (h1 : n < 16) (w : World) :
    (Instr.slice t (.string ⟨#[48, 49, 50, 51, 52, 53, 54, 55, 56, 57, 97, 98, 99, 100, 101, 102]⟩) (some (.int .u8 n)) (some (.int .u8 (n + 1))) none).run P w = .ok (.string ⟨#[digitB n]⟩) w := by
  obtain ⟨k, rfl⟩ : ∃ k : Nat, n = (k : Int) := ⟨n.toNat, by omega⟩
  have := run_slice_string (P := P) w t digits16 .u8 .u8 (k : Int) ((k : Int) + 1) ht (by omega) (by omega) (by have : digits16.size = 16 := rfl; omega)
  rw [show ((k : Int) + 1).toNat = k + 1 by omega, show ((k : Int)).toNat = k by omega, digits_cut k (by omega)] at this
  exact this
theorem hexB_take (h : List Int) (n : Nat) (hn : n < h.length) : hexB (h.take (n + 1)) = (hexB (h.take n) ++ [digitB (h.getD n 0 / 16)]) ++ [digitB (h.getD n 0 % 16)] := by
  have e : h.take (n + 1) = h.take n ++ [h.getD n 0] := by
    rw [List.take_add_one, List.getD_eq_getElem?_getD, List.getElem?_eq_getElem hn]; rfl
  rw [e]
  unfold hexB
  rw [List.flatMap_append]
  simp

set_option maxRecDepth 100000 in
set_option maxHeartbeats 8000000 in
theorem ref_Hex.calls (h : List Int) (w : World) (hl : h.length = 32) (hb : ∀ c ∈ h, 0 ≤ c ∧ c < 256) : Calls Tryd.prog 15 #[.agg (h.map (Value.int .u8)).toArray] w fun e w' => e = .returned (.string ⟨(hexB h).toArray⟩) ∧ Below w.heap.size w w' := by
  obtain ⟨X, hX⟩ : ∃ X, X = h.map (Value.int .u8) := ⟨_, rfl⟩
  rw [← hX]
  have HX := Aside0.mk hX
  have Hb := Aside0.mk hb
  have Hl := Aside0.mk hl
  have HID := Aside0.mk (fun (n : Int) (h0 : 0 ≤ n) (h1 : n < 16) (W : World) => slice_digit (P := Tryd.prog) (t := 9) Tryd.underlying9 n h0 h1 W)
  clear hX hb hl
  go_enter Tryd.func15, Tryd.ntmps15
  go_upto_region 3 with ((with_reducible refine gate_dst (N := 1) rfl ?_); refine box_event ?hg (N := 1) ?hd (cs := X.toArray) (t := 24) ?hr ?_; (case hd => rfl); (case hg => rfl); (case hr => first | (go_simp; done) | (go_simp; rfl)); intro g1 hg_ w1 hbox_ hb_; have G1 := Aside0.mk hg_; have R1 := Aside0.mk (rangeAt_box hbox_); have B1 := Aside0.mk hb_; have LT1 := Aside0.mk (blk_lt hbox_); clear hg_ hbox_ hb_)
  go_wp2
  go_loopw [5, 4] (fun i s wr => ∃ x : Int, i = .int .i64 x ∧ s = .string ⟨(hexB (h.take x.toNat)).toArray⟩ ∧ (0 ≤ x ∧ x ≤ 32) ∧ Aside0 (Below w1.heap.size w1 wr))
    (fun i _ _ => 32 - (intOf i).toNat)
  case atStart => exact ⟨0, rfl, rfl, ⟨by omega, by omega⟩, ⟨Below.refl _ _⟩⟩
  case round =>
  obtain ⟨x, rfl, rfl, ⟨hx0, hx1⟩, HG⟩ := hrel
  by_cases hx : x < 32
  · have d1 : decide (x < 32) = true := decide_eq_true hx
    have xw : wrap64 (x + 1) = x + 1 := by unfold wrap64; omega
    have hk : x.toNat < h.length := by rw [Hl.out]; omega
    obtain ⟨c, hc⟩ : ∃ c, c = h.getD x.toNat 0 := ⟨_, rfl⟩
    have hcell : wr.cell? ⟨g1, x.toNat, none⟩ = some (.int .u8 c) := by
      have := rangeAt_below R1.out HG.out LT1.out x.toNat (.int .u8 c) (by
        rw [HX.out, hc, List.getElem?_map, List.getElem?_eq_getElem hk, List.getD_eq_getElem?_getD, List.getElem?_eq_getElem hk]; rfl)
      rwa [Nat.zero_add] at this
    have hcb : 0 ≤ c ∧ c < 256 := by
      rw [hc, List.getD_eq_getElem?_getD, List.getElem?_eq_getElem hk]
      exact Hb.out _ (List.getElem_mem hk)
    obtain ⟨hi, hhi⟩ : ∃ v, c / 16 = v := ⟨_, rfl⟩
    obtain ⟨lo, hlo⟩ : ∃ v, c % 16 = v := ⟨_, rfl⟩
    have hlo2 : Go.bits .and .u8 c 15 = lo := (and15 c hcb.1 hcb.2).trans hlo
    have hi0 : 0 ≤ hi ∧ hi < 16 := by omega
    have lo0 : 0 ≤ lo ∧ lo < 16 := by omega
    have hid1 := HID.out hi (by omega) (by omega)
    have hid2 := HID.out lo (by omega) (by omega)
    have hw1 : IntKind.u8.wrap (hi + 1) = hi + 1 := by rw [show IntKind.u8.wrap (hi + 1) = (hi + 1) % 256 by simp [IntKind.wrap, IntKind.signed, IntKind.bits]]; omega
    have hw2 : IntKind.u8.wrap (lo + 1) = lo + 1 := by rw [show IntKind.u8.wrap (lo + 1) = (lo + 1) % 256 by simp [IntKind.wrap, IntKind.signed, IntKind.bits]]; omega
    obtain ⟨L, hL⟩ : ∃ L, L = hexB (h.take x.toNat) := ⟨_, rfl⟩
    have hst := hexB_take h x.toNat hk
    rw [← hc, hhi, hlo, ← hL] at hst
    rw [← hL]
    have hLl : L.length ≤ 64 := by rw [hL, hexB_length, List.length_take, Hl.out]; omega
    obtain ⟨S, hS⟩ : ∃ S : ByteArray, S = ⟨L.toArray⟩ := ⟨_, rfl⟩
    obtain ⟨D1, hD1⟩ : ∃ S : ByteArray, S = ⟨#[digitB hi]⟩ := ⟨_, rfl⟩
    obtain ⟨D2, hD2⟩ : ∃ S : ByteArray, S = ⟨#[digitB lo]⟩ := ⟨_, rfl⟩
    obtain ⟨S1, hS1⟩ : ∃ S : ByteArray, S = ⟨(L ++ [digitB hi]).toArray⟩ := ⟨_, rfl⟩
    obtain ⟨S2, hS2⟩ : ∃ S : ByteArray, S = ⟨((L ++ [digitB hi]) ++ [digitB lo]).toArray⟩ := ⟨_, rfl⟩
    have ha1 : ∀ W, (Op.stringOp .add S D1).run Tryd.prog W = .ok (.string S1) W := fun W => by
      rw [hS, hD1, hS1]
      exact run_string_add_lists W L [digitB hi] (by omega) (by simp)
    have ha2 : ∀ W, (Op.stringOp .add S1 D2).run Tryd.prog W = .ok (.string S2) W := fun W => by
      rw [hS1, hD2, hS2]
      exact run_string_add_lists W (L ++ [digitB hi]) [digitB lo] (by simp; omega) (by simp)
    rw [← hD1] at hid1
    rw [← hD2] at hid2
    rw [← hS]
    have HST := Aside0.mk hst
    have HS2 := Aside0.mk hS2
    clear hst hL hLl hS hD1 hD2 hS1 hS2 hc hk hlo
    go_upto_region 6 with (fail)
    go_region_held3 (fun w' => w'.cell? ⟨g1, x.toNat, none⟩ = some (.int .u8 c)) (go_keep) (fail)
    go_wp2
    exact ⟨⟨x + 1, rfl, by rw [HS2.out, show (x + 1).toNat = x.toNat + 1 by omega, HST.out], ⟨by omega, by omega⟩, ⟨Below.drew HG.out⟩⟩, by simp [intOf]; omega⟩
  · have d1 : decide (x < 32) = false := decide_eq_false hx
    have hx9 : x = 32 := by omega
    subst hx9
    have e32 : h.take (32 : Int).toNat = h := List.take_of_length_le (by rw [Hl.out]; decide)
    rw [e32]
    clear hx hx0 hx1 e32
    go_wp2
    go_ret
    exact ⟨rfl, below_step B1.out HG.out⟩
end Go.Proofs.YtpcokihfecbigaaDoor.G
