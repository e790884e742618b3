import Derived.Test.YtdnfknphahmofaaHSeq
import Derived.Test.YtdnfknphahmofaaGx6
/- The reference's Cut: what it hands back lies in the slice that came in. -/
namespace Go.Proofs.Ytdnfknphahmofaa.G
open Go.RowKit Go.Proofs.YtdnfknphahmofaaW.PrintWords Go.Proofs.YtdnfknphahmofaaW.PrintLast Go.Proofs.YtdnfknphahmofaaW.PrintMore
attribute [local go_sem] max2_int min2_int max_two min_two max_three min_three max_four min_four
set_option linter.unusedVariables false
set_option linter.unusedSimpArgs false

/-- A slice of bytes that lies in memory below B: it reads as xs. -/
def RD (B : Nat) (W : World) (v : Value) (xs : List Int) : Prop :=
  (∃ A c, v = .slice A xs.length c ∧ Kd.C (Kd.int .u8) W A xs.length xs ∧ xs.length ≤ c) ∧ (∀ k, v.ownBlock = some k → k < B) ∧ B ≤ W.heap.size
theorem C_move {k : IntKind} {B : Nat} {W W' : World} {A : Option Addr} {n : Nat} {xs : List Int} (h : Kd.C (Kd.int k) W A n xs) (hA : ∀ ad, A = some ad → 0 < n → ad.block < B) (hb : ∀ q, q < B → W'.heap[q]? = W.heap[q]?) : Kd.C (Kd.int k) W' A n xs := by
  refine ⟨h.1, h.2.1, fun h0 => ?_⟩
  obtain ⟨ad, e, hc⟩ := h.2.2 h0
  refine ⟨ad, e, fun j p hj => ?_⟩
  obtain ⟨c, hl, hr, hcell⟩ := hc j p hj
  refine ⟨c, hl, hr, fun i u hu => ?_⟩
  have hlt := hA ad e h0
  have hq := World.cell?_of_block (w := W) (w' := W') (a := ad.add (j * (Kd.int k).sz + i)) (by rw [addr_block]; exact hb _ hlt)
  rw [hq]; exact hcell i u hu
theorem RD_block {B : Nat} {W : World} {v : Value} {xs : List Int} (h : RD B W v xs) {W' : World} (hs : W.heap.size ≤ W'.heap.size) (hb : ∀ q, q < B → W'.heap[q]? = W.heap[q]?) : RD B W' v xs := by
  obtain ⟨⟨A, c, e, hC, hc⟩, ho, hB⟩ := h
  refine ⟨⟨A, c, e, C_move (B := B) hC (fun ad ea h0 => ho ad.block (by subst e; subst ea; rfl)) hb, hc⟩, ho, by omega⟩
theorem RD_below {B : Nat} {W W' : World} {v : Value} {xs : List Int} (h : RD B W v xs) (hb : Below W.heap.size W W') : RD B W' v xs := RD_block h hb.size (fun q hq => hb.block q (Nat.lt_of_lt_of_le hq h.2.2))
theorem RD_alloc {B : Nat} {W : World} {v : Value} {xs : List Int} (h : RD B W v xs) (o : Obj) : RD B (W.alloc o) v xs := RD_below h ((Below.refl _ _).alloc (Nat.le_refl _) _)
theorem RD_drewN {B : Nat} {W : World} {v : Value} {xs : List Int} (h : RD B W v xs) (n : Nat) : RD B (W.drewN n) v xs := RD_block h (Nat.le_refl _) (fun q hq => rfl)
theorem RD_drew {B : Nat} {W : World} {v : Value} {xs : List Int} (h : RD B W v xs) : RD B W.drew v xs := RD_block h (Nat.le_refl _) (fun q hq => rfl)
theorem RD_lt {B : Nat} {W : World} {v : Value} {xs : List Int} (h : RD B W v xs) : ∀ k, v.ownBlock = some k → k < W.heap.size := fun k hk => Nat.lt_of_lt_of_le (h.2.1 k hk) h.2.2
theorem RD_after {B : Nat} {W w1 : World} {u v : Value} {xs : List Int} (h : RD B W u xs) (hg : W.grownBy w1 v.ownBlock) (hv : ∀ k, v.ownBlock = some k → B ≤ k) : RD B w1 u xs :=
  RD_block h hg.size (fun q hq => hg.block q (Nat.lt_of_lt_of_le hq h.2.2) (fun e => by have := hv q e.symm; omega))
theorem RD_string {B : Nat} {P : Program} {W : World} {v : Value} {xs : List Int} {src dst e : TypeId} (hs : P.underlying src = some (.slice e)) (he : P.underlying e = some (.int .u8)) (hd : P.underlying dst = some .string) (h : RD B W v xs) :
    (convert src dst v).run P W = .ok (.string (strOfNums xs)) W := by
  obtain ⟨⟨A, c, e, hC, hc⟩, _⟩ := h
  subst e
  exact Kd.C_string hs he hd hC
theorem RD_elder {α : Type} {d : Kd α} {e b B : Nat} {ok : Nat → Prop} {W w1 : World} {u v : Value} {ys : List α} {xs : List Int} (hu : d.R e W b ok u ys) (hv : RD B w1 v xs) (hB : B ≤ b) (hb : Below W.heap.size W w1) : d.R e w1 b (fun k => ok k ∧ some k ≠ v.ownBlock) u ys :=
  Kd.R_mono (Kd.R_move (Kd.R_bound hu) (fun k hk => hb.block k hk.2.2.1)) (fun k hk => ⟨hk.1, fun he => by have := hv.2.1 k he.symm; have := hk.2.1; omega⟩)

def althingref1_Cut.f (k : Nat) (l0 : List Int) : Option (List Int × Int × Bool) := (althingref1_Take.f k l0).bind fun bt =>
  if bt.2.2 = true then (if bt.1 > wrap64 ((l0.length : Int) - bt.2.1) then some ([], 0, false) else (if 0 ≤ bt.2.1 then (if bt.2.1 ≤ wrap64 (bt.2.1 + bt.1) then (if wrap64 (bt.2.1 + bt.1) ≤ (l0.length : Int) then some ((l0.take (wrap64 (bt.2.1 + bt.1)).toNat).drop bt.2.1.toNat, wrap64 (bt.2.1 + bt.1), true) else none) else none) else none)) else some ([], 0, false)
theorem althingref1_Cut.mono : ∀ a0 k, LeO (althingref1_Cut.f k a0) (althingref1_Cut.f (k + 1) a0) := by
  intro a0 k
  unfold althingref1_Cut.f
  exact LeO.bind (althingref1_Take.mono _ _) (fun _ => LeO.refl _)

set_option maxHeartbeats 4000000 in
set_option maxRecDepth 100000 in
theorem althingref1_Cut.calls (k : Nat) (A0 : Option Addr) (c0 : Nat) (l0 : List Int) (r1 : List Int) (r2 : Int) (r3 : Bool) (B : Nat) (w : World) (hr0 : Kd.C (Kd.int .u8) w A0 l0.length l0) (hA : ∀ ad, A0 = some ad → 0 < l0.length → ad.block < B) (hBw : B ≤ w.heap.size) (hc0 : l0.length ≤ c0) (h : althingref1_Cut.f k l0 = some (r1, r2, r3)) :
    Calls Try.prog 23 #[.slice A0 l0.length c0] w fun e w' => ∃ v0_ : Value, e = .returned (.tuple #[v0_, .int .i64 r2, .bool r3]) ∧ RD B w' v0_ r1 ∧ Below w.heap.size w w' := by
  have HR0 := Aside0.mk hr0
  have HA := Aside0.mk hA
  clear hr0 hA
  have nilR : ∀ W : World, B ≤ W.heap.size → RD B W (.slice none 0 0) [] := fun W hW => ⟨⟨none, 0, rfl, Kd.C_nil _ _, Nat.le_refl _⟩, fun k hk => (by simp [Value.ownBlock] at hk), hW⟩
  have H : ((althingref1_Take.f k l0).bind fun bt =>
    if bt.2.2 = true then (if bt.1 > wrap64 ((l0.length : Int) - bt.2.1) then some ([], 0, false) else (if 0 ≤ bt.2.1 then (if bt.2.1 ≤ wrap64 (bt.2.1 + bt.1) then (if wrap64 (bt.2.1 + bt.1) ≤ (l0.length : Int) then some ((l0.take (wrap64 (bt.2.1 + bt.1)).toNat).drop bt.2.1.toNat, wrap64 (bt.2.1 + bt.1), true) else none) else none) else none)) else some ([], 0, false)) = some (r1, r2, r3) := h
  clear h
  obtain ⟨⟨t1, t2, t3⟩, A2, H⟩ := Option.bind_eq_some_iff.mp H
  have A2 := Aside0.mk A2
  dsimp only at H
  cases t3 with
  | false =>
    rw [if_neg (by decide)] at H
    simp only [Option.some.injEq, Prod.mk.injEq] at H
    obtain ⟨rfl, rfl, rfl⟩ := H
    go_enter Try.func23, Try.ntmps23
    go_wp2_with (go_at_call 18; ((with_reducible refine (althingref1_Take.calls k _ _ l0 t1 t2 false _ HR0.out hc0 A2.out).mono ?_)); rintro e w1 ⟨rfl, hb⟩; have HB := Aside0.mk hb; clear hb)
    go_ret3
    exact ⟨_, rfl, nilR _ (Nat.le_trans hBw HB.out.size), HB.out⟩
  | true =>
    rw [if_pos rfl] at H
    by_cases c4 : t1 > wrap64 ((l0.length : Int) - t2)
    · rw [if_pos c4] at H
      have c4b0 : decide (wrap64 ((l0.length : Int) - t2) < t1) = true := decide_eq_true c4
      clear c4
      simp only [Option.some.injEq, Prod.mk.injEq] at H
      obtain ⟨rfl, rfl, rfl⟩ := H
      go_enter Try.func23, Try.ntmps23
      go_wp2_with (go_at_call 18; ((with_reducible refine (althingref1_Take.calls k _ _ l0 t1 t2 true _ HR0.out hc0 A2.out).mono ?_)); rintro e w1 ⟨rfl, hb⟩; have HB := Aside0.mk hb; clear hb)
      go_ret3
      exact ⟨_, rfl, nilR _ (Nat.le_trans hBw HB.out.size), HB.out⟩
    · rw [if_neg c4] at H
      have c4b0 : decide (wrap64 ((l0.length : Int) - t2) < t1) = false := decide_eq_false c4
      clear c4
      obtain ⟨q, hq⟩ : ∃ q, wrap64 (t2 + t1) = q := ⟨_, rfl⟩
      rw [hq] at H
      by_cases c6 : 0 ≤ t2
      · rw [if_pos c6] at H
        by_cases c7 : t2 ≤ q
        · rw [if_pos c7] at H
          by_cases c8 : q ≤ (l0.length : Int)
          · rw [if_pos c8] at H
            simp only [Option.some.injEq, Prod.mk.injEq] at H
            obtain ⟨rfl, rfl, rfl⟩ := H
            obtain ⟨i0, hi0, _, hsz, _⟩ := info_parts info5
            have hcut := cut_mid (P := Try.prog) 23 5 .i64 .i64 Try.underlying23 hi0 1 hsz A0 l0.length c0 t2 q c6 c7 c8 hc0
            obtain ⟨A', hA'⟩ : ∃ A', (if c0 = t2.toNat then A0 else A0.map (·.add (t2.toNat * 1))) = A' := ⟨_, rfl⟩
            rw [hA'] at hcut
            have hA' := Lib.hid hA'
            have hmid := Aside0.mk (fun (W : World) (hC : Kd.C (Kd.int .u8) W A0 l0.length l0) => Kd.C_mid (lo := t2.toNat) (hi := q.toNat) (c := c0) hC (by omega) (by omega) hc0)
            have hlen : ((l0.take q.toNat).drop t2.toNat).length = q.toNat - t2.toNat := by rw [List.length_drop, List.length_take]; omega
            have hcap : ((l0.take q.toNat).drop t2.toNat).length ≤ c0 - t2.toNat := by rw [hlen]; omega
            have hlen := Lib.hid hlen
            have hcap := Lib.hid hcap
            have hpos : 0 < (q.toNat - t2.toNat) → 0 < l0.length := by omega
            have hpos := Lib.hid hpos
            go_enter Try.func23, Try.ntmps23
            go_wp2_with (go_at_call 18; ((with_reducible refine (althingref1_Take.calls k _ _ l0 t1 t2 true _ HR0.out hc0 A2.out).mono ?_)); rintro e w1 ⟨rfl, hb⟩; have HB := Aside0.mk hb; clear hb)
            go_ret3
            have hM := hmid.out _ (Kd.C_below HR0.out HB.out)
            rw [show (Kd.int .u8).sz = 1 from rfl, hA'.out] at hM
            refine ⟨.slice A' (q.toNat - t2.toNat) (c0 - t2.toNat), by rw [← hq]; rfl, ⟨⟨A', c0 - t2.toNat, ?_, hM, ?_⟩, ?_, ?_⟩, HB.out⟩
            · rw [hlen.out]
            · exact hcap.out
            · intro k hk
              have hp : 0 < l0.length := by
                rcases Nat.eq_zero_or_pos l0.length with h0 | h0
                · obtain rfl := List.length_eq_zero_iff.1 h0
                  have := A2.out
                  simp [althingref1_Take.f] at this
                · exact h0
              have hA' := hA'.out
              cases A0 with
              | none => simp at hA'; subst hA'; simp [Value.ownBlock] at hk
              | some ad =>
                have := HA.out ad rfl hp
                by_cases hc : c0 = t2.toNat
                · simp [hc] at hA'; subst hA'; simp [Value.ownBlock] at hk; omega
                · simp [hc] at hA'; subst hA'; simp [Value.ownBlock, addr_block] at hk; omega
            · exact Nat.le_trans hBw HB.out.size
          · rw [if_neg c8] at H; cases H
        · rw [if_neg c7] at H; cases H
      · rw [if_neg c6] at H; cases H

end Go.Proofs.Ytdnfknphahmofaa.G
