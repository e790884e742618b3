/- The document's numbers as bytes (althingref1), plainly: the same as compact's. -/
import Derived.Test.YtockdfnnhkhlkaaGreatDoorRoPTake
import Derived.Test.YtockdfnnhkhlkaaGreatDoorRoGx5
import Derived.IntWalk
import Derived.Test.YtockdfnnhkhlkaaGreatDoorRoHSeq
import Derived.Test.YtockdfnnhkhlkaaGreatDoorRoGx2
import Derived.Maps.AppendAt
import Derived.Test.YtockdfnnhkhlkaaGreatDoorRoHStep
import Derived.Test.YtockdfnnhkhlkaaGreatDoorRoHClone
namespace Go.Proofs.YtockdfnnhkhlkaaGreatDoor.PNum
open Go.RowKit Go.Proofs.YtockdfnnhkhlkaaGreatDoor.G Go.Proofs.YtockdfnnhkhlkaaGreatDoorW.PrintWords Go.Proofs.YtockdfnnhkhlkaaGreatDoorW.PrintMore Go.Proofs.YtockdfnnhkhlkaaGreatDoorW.PrintLast
set_option linter.unusedVariables false
set_option linter.unusedSimpArgs false

theorem i64_low (n : Int) (h0 : 0 ≤ n) (h1 : n < 2 ^ 63) : IntKind.i64.wrap n = n := by
  have : n < 9223372036854775808 := by have e : (2 : Int) ^ 63 = 9223372036854775808 := by decide
                                       rw [e] at h1; exact h1
  rw [i64_w]; exact wrap_in h0 (by omega)
theorem or_small (x y : Int) (i : Nat) (hx : 0 ≤ x) (hm : x % 2 ^ i = 0) (hx1 : x < 9223372036854775808) (hy : 0 ≤ y) (hy1 : y < 2 ^ i) (hy2 : y < 9223372036854775808) : Go.bits .or .i64 x y = x + y :=
  bits_join .i64 63 (by decide) i64_low i x y hx hm (by rw [show (2 : Int) ^ 63 = 9223372036854775808 from by decide]; exact hx1) hy hy1 (by rw [show (2 : Int) ^ 63 = 9223372036854775808 from by decide]; exact hy2)
theorem u64_at (i : Nat) (h : i ≤ 100) : IntKind.u64.wrap (wrap64 (8 * (i : Int))) = ((8 * i : Nat) : Int) := by
  rw [wrap_in (by omega) (by omega), IntKind.wrap_u64]; omega

/-! ### low, Num -/
theorem lowB_snoc (n : Int) (s : Nat) : lowB n (s + 1) = lowB n s ++ [n / 2 ^ (8 * s) % 256] := by
  induction s generalizing n with
  | zero => simp [lowB]
  | succ s ih =>
    have h := ih (n / 256)
    rw [lowB, h, lowB, List.cons_append]
    congr 3
    rw [Int.ediv_ediv_of_nonneg (by decide)]
    congr 2
    rw [show 8 * (s + 1) = 8 + 8 * s from by omega, Int.pow_add]
    rfl
theorem rlow_loop (n : Int) (s : Nat) (hs : s ≤ 8) (d : Nat) : ∀ (k i : Nat), i + d = s → d < k → althingref1_low.l0 k n s (lowB n i) i = some (lowB n s) := by
  induction d with
  | zero =>
    intro k i hi hk
    obtain ⟨k, rfl⟩ : ∃ q, k = q + 1 := ⟨k - 1, by omega⟩
    obtain rfl : i = s := by omega
    rw [althingref1_low.l0, if_neg (by omega)]
  | succ d ih =>
    intro k i hi hk
    obtain ⟨k, rfl⟩ : ∃ q, k = q + 1 := ⟨k - 1, by omega⟩
    have e1 : wrap64 ((i : Int) + 1) = ((i + 1 : Nat) : Int) := by rw [wrap_in (by omega) (by omega)]; omega
    have hl := lowB_length n i
    rw [althingref1_low.l0, if_pos (by omega), u64_at i (by omega), if_pos (by omega), if_pos (by omega), shr_at _ _ (by omega), e1, ← lowB_snoc]
    exact ih k (i + 1) (by omega) (by omega)
theorem rlow_tells (k : Nat) (n : Int) (s : Nat) (hs : s ≤ 8) (hk : s < k) : althingref1_low.f k n s = some (lowB n s) := rlow_loop n s hs s k 0 (by omega) hk

theorem rnum_end (k : Nat) (n : Int) (x : Nat) (h4 : 4 ≤ x) (h8 : x ≤ 8) (hk : 9 < k) :
    ((some (([(Go.bits .or .i64 (wrap64 ((wrap64 ((x : Int) - 4)) * 4)) 3) % 256] : List Int) : List Int)).bind fun y184 => ((althingref1_low.f k n (x : Int)).bind fun t187 => (if y184.length + t187.length < 140737488355328 then (some (y184 ++ t187)) else (none)))) =
      some ((4 * ((x : Int) - 4) + 3) :: lowB n x) := by
  have e1 : wrap64 ((x : Int) - 4) = (x : Int) - 4 := wrap_in (by omega) (by omega)
  have e2 : wrap64 (((x : Int) - 4) * 4) = ((x : Int) - 4) * 4 := wrap_in (by omega) (by omega)
  have e3 : Go.bits .or .i64 (((x : Int) - 4) * 4) 3 = ((x : Int) - 4) * 4 + 3 := or_small _ _ 2 (by omega) (by omega) (by omega) (by decide) (by decide) (by decide)
  have e4 : (((x : Int) - 4) * 4 + 3) % 256 = 4 * ((x : Int) - 4) + 3 := by omega
  have hl := lowB_length n x
  rw [e1, e2, e3, e4, Option.bind_some, rlow_tells k n x h8 (by omega), Option.bind_some, if_pos (by rw [hl]; simp; omega)]
  rfl
theorem rnum_step (k : Nat) (n : Int) (x : Nat) (h4 : 4 ≤ x) (hx : x < 8) (hk : 9 < k) :
    althingref1_Num.l0 (k + 1) n x = if n / 2 ^ (8 * x) > 0 then althingref1_Num.l0 k n ((x + 1 : Nat) : Int) else some ((4 * ((x : Int) - 4) + 3) :: lowB n x) := by
  have e1 : wrap64 ((x : Int) + 1) = ((x + 1 : Nat) : Int) := by rw [wrap_in (by omega) (by omega)]; omega
  rw [althingref1_Num.l0, if_pos (by omega), u64_at x (by omega), if_pos (by omega), shr_at _ _ (by omega), e1, rnum_end k n x h4 (by omega) hk]
theorem rnum_last (k : Nat) (n : Int) (hk : 9 < k) : althingref1_Num.l0 (k + 1) n ((8 : Nat) : Int) = some ((4 * (((8 : Nat) : Int) - 4) + 3) :: lowB n 8) := by
  rw [althingref1_Num.l0, if_neg (by omega)]
  exact rnum_end k n 8 (by omega) (by omega) hk
theorem rnum_great (k : Nat) (n : Int) (hk : 15 ≤ k) : althingref1_Num.l0 k n 4 = some ((4 * ((widthN n : Int) - 4) + 3) :: lowB n (widthN n)) := by
  obtain ⟨k, rfl⟩ : ∃ m, k = m + 5 := ⟨k - 5, by omega⟩
  have s4 := rnum_step (k + 4) n 4 (by omega) (by omega) (by omega)
  have s5 := rnum_step (k + 3) n 5 (by omega) (by omega) (by omega)
  have s6 := rnum_step (k + 2) n 6 (by omega) (by omega) (by omega)
  have s7 := rnum_step (k + 1) n 7 (by omega) (by omega) (by omega)
  have s8 := rnum_last k n (by omega)
  have p4 := pos_div n (2 ^ (8 * 4)) (by decide)
  have p5 := pos_div n (2 ^ (8 * 5)) (by decide)
  have p6 := pos_div n (2 ^ (8 * 6)) (by decide)
  have p7 := pos_div n (2 ^ (8 * 7)) (by decide)
  rw [show ((2 : Int) ^ (8 * 4)) = 4294967296 from by decide] at s4 p4
  rw [show ((2 : Int) ^ (8 * 5)) = 1099511627776 from by decide] at s5 p5
  rw [show ((2 : Int) ^ (8 * 6)) = 281474976710656 from by decide] at s6 p6
  rw [show ((2 : Int) ^ (8 * 7)) = 72057594037927936 from by decide] at s7 p7
  unfold widthN
  refine Eq.trans s4 ?_
  by_cases h4 : n < 4294967296
  · rw [if_neg (by rw [p4]; omega), if_pos h4]
  · rw [if_pos (by rw [p4]; omega), if_neg h4]
    refine Eq.trans s5 ?_
    by_cases h5 : n < 1099511627776
    · rw [if_neg (by rw [p5]; omega), if_pos h5]
    · rw [if_pos (by rw [p5]; omega), if_neg h5]
      refine Eq.trans s6 ?_
      by_cases h6 : n < 281474976710656
      · rw [if_neg (by rw [p6]; omega), if_pos h6]
      · rw [if_pos (by rw [p6]; omega), if_neg h6]
        refine Eq.trans s7 ?_
        by_cases h7 : n < 72057594037927936
        · rw [if_neg (by rw [p7]; omega), if_pos h7]
        · rw [if_pos (by rw [p7]; omega), if_neg h7]
          exact s8

theorem rnum_tells (k : Nat) (n : Int) (hk : 15 ≤ k) : althingref1_Num.f k n = some (numB n) := by
  have hb := heldN_bound n
  have hh : mn (mx n 0) 4611686018427387904 = heldN n := by rw [mx_eq, mn_eq]; rfl
  unfold althingref1_Num.f numB
  rw [hh]
  by_cases h1 : heldN n < 64
  · rw [if_pos h1, if_pos h1, wrap_in (by omega) (by omega)]
    have h := rlow_tells k (heldN n * 4) 1 (by omega) (by omega)
    rw [show (((1 : Nat)) : Int) = 1 from rfl] at h
    rw [h, Option.bind_some, Int.mul_comm]
  · rw [if_neg h1, if_neg h1]
    by_cases h2 : heldN n < 16384
    · rw [if_pos h2, if_pos h2, wrap_in (by omega) (by omega), or_small _ _ 1 (by omega) (by omega) (by omega) (by decide) (by decide) (by decide)]
      have h := rlow_tells k (heldN n * 4 + 1) 2 (by omega) (by omega)
      rw [show (((2 : Nat)) : Int) = 2 from rfl] at h
      rw [h, Option.bind_some, Int.mul_comm]
    · rw [if_neg h2, if_neg h2]
      by_cases h3 : heldN n < 1073741824
      · rw [if_pos h3, if_pos h3, wrap_in (by omega) (by omega), or_small _ _ 2 (by omega) (by omega) (by omega) (by decide) (by decide) (by decide)]
        have h := rlow_tells k (heldN n * 4 + 2) 4 (by omega) (by omega)
        rw [show (((4 : Nat)) : Int) = 4 from rfl] at h
        rw [h, Option.bind_some, Int.mul_comm]
      · rw [if_neg h3, if_neg h3]
        exact rnum_great k _ hk

/-! ### Take -/
theorem strOf_inj {a b : List Int} (ha : IsBytes a) (hb : IsBytes b) : (strOfNums a).toList = (strOfNums b).toList ↔ a = b := by
  have hr : ∀ l : List Int, IsBytes l → (strOfNums l).toList.map (fun c => (c.toNat : Int)) = l := by
    intro l hl
    have e : (strOfNums l).toList = l.map fun n => UInt8.ofNat n.toNat := by
      unfold strOfNums
      simp
    rw [e, List.map_map]
    conv => rhs; rw [← List.map_id l]
    apply List.map_congr_left
    intro c hc
    have := hl c hc
    simp only [Function.comp, id, UInt8.toNat_ofNat']
    omega
  constructor
  · intro h
    rw [← hr a ha, ← hr b hb, h]
  · intro h; rw [h]

theorem u8_and3 (x : Int) (h₀ : 0 ≤ x) (h₁ : x < 256) : Go.bits .and .u8 x 3 = x % 4 := bits_mask .u8 8 (by decide) wraps_u8 2 (by decide) x h₀ h₁
theorem or_low (x b : Int) (h0 : 0 ≤ b) (h1 : b < 256) : Go.bits .or .i64 (wrap64 (x * 256)) b = wrap64 (x * 256 + b) := by
  obtain ⟨c, rfl⟩ := Int.eq_ofNat_of_zero_le h0
  have e1 : (BitVec.ofInt 64 (wrap64 (x * 256))).toNat = ((x * 256) % 18446744073709551616).toNat := by
    rw [BitVec.toNat_ofInt]
    congr 1
    unfold wrap64; omega
  have e2 : (BitVec.ofInt 64 (c : Int)).toNat = c := by
    rw [BitVec.toNat_ofInt]
    omega
  have hj : ((x * 256) % 18446744073709551616).toNat ||| c = ((x * 256) % 18446744073709551616).toNat + c := by
    have h := Nat.two_pow_add_eq_or_of_lt (i := 8) (b := c) (by omega) (((x * 256) % 18446744073709551616).toNat / 256)
    have hd : 2 ^ 8 * (((x * 256) % 18446744073709551616).toNat / 256) = ((x * 256) % 18446744073709551616).toNat := by omega
    rw [hd] at h
    exact h.symm
  have e : Go.bits .or .i64 (wrap64 (x * 256)) (c : Int) = wrap64 (((((x * 256) % 18446744073709551616).toNat + c : Nat)) : Int) := by
    rw [← hj, ← e1]
    conv => rhs; rw [← e2]
    rw [← BitVec.toNat_or]
    exact i64_w _
  rw [e]
  unfold wrap64
  omega

theorem valB_split (c : Int) (r : List Int) : valB (c :: r) = c + 256 * valB r := rfl
theorem rtake_step (k : Nat) (l : List Int) (at_ size d : Nat) (acc b : Int) (h1 : at_ + d < l.length) (h2 : at_ + d ≤ 1000) (hg : l[at_ + d] = b) (h0 : 0 ≤ b) (hb : b < 256) :
    althingref1_Take.l0 (k + 1) l at_ size acc (d : Int) = althingref1_Take.l0 k l at_ size (wrap64 (acc * 256 + b)) ((d : Int) - 1) := by
  have i1 : wrap64 ((at_ : Int) + (d : Int)) = ((at_ + d : Nat) : Int) := by rw [wrap_in (by omega) (by omega)]; omega
  have i2 : wrap64 ((d : Int) - 1) = (d : Int) - 1 := by unfold wrap64; omega
  have c0 : (d : Int) ≥ 0 := by omega
  have c1 : (0 : Int) ≤ ((at_ + d : Nat) : Int) := by omega
  have c2 : ((at_ + d : Nat) : Int) < (l.length : Int) := by omega
  have e3 : wrap64 b = b := wrap_in h0 (by omega)
  rw [althingref1_Take.l0, if_pos c0, i1, if_pos c1, if_pos c2, rd_nat l (at_ + d) h1, i2, hg, e3, or_low _ _ h0 hb]
theorem rtake_loop (l : List Int) (hl : IsBytes l) (at_ size : Nat) (ha : at_ ≤ 1) (hs : size ≤ 8) (hlen : at_ + size ≤ l.length) (d : Nat) : ∀ (k : Nat) (acc : Int), d ≤ size →
    acc = wrap64 (valB (((l.drop at_).take size).drop d)) →
    althingref1_Take.l0 (k + d) l at_ size acc ((d : Int) - 1) = althingref1_Take.l0 k l at_ size (wrap64 (valB ((l.drop at_).take size))) (-1) := by
  induction d with
  | zero => intro k acc _ h; rw [h]; rfl
  | succ d ih =>
    intro k acc hd h
    have hlt : d < ((l.drop at_).take size).length := by rw [List.length_take, List.length_drop]; omega
    have hb : IsBytes ((l.drop at_).take size) := (hl.drop at_).take size
    have hx := hb _ (List.getElem_mem hlt)
    have h1 : at_ + d < l.length := by omega
    have hg : l[at_ + d] = ((l.drop at_).take size)[d] := by rw [List.getElem_take, List.getElem_drop]
    have hc := List.drop_eq_getElem_cons hlt
    have i0 : (((d + 1 : Nat)) : Int) - 1 = (d : Int) := by omega
    have e : wrap64 (acc * 256 + ((l.drop at_).take size)[d]) = wrap64 (valB (((l.drop at_).take size).drop d)) := by
      rw [h, hc, valB_split]
      generalize valB (((l.drop at_).take size).drop (d + 1)) = v
      generalize ((l.drop at_).take size)[d] = b
      unfold wrap64
      omega
    have hs := rtake_step (k + d) l at_ size d acc _ h1 (by omega) hg hx.1 hx.2
    rw [i0, show k + (d + 1) = (k + d) + 1 from rfl, hs]
    exact ih k _ (by omega) e

theorem rtake_end (k : Nat) (l : List Int) (hl : IsBytes l) (at_ size : Nat) (ha : at_ ≤ 1) (hs : size ≤ 8) (hs1 : 1 ≤ size) (hlen : at_ + size ≤ l.length) (v : Int) (hk : 17 ≤ k) :
    althingref1_Take.l0 k l at_ size v (-1) = some (outT (if (if at_ = 0 then v / 4 else v) < 0 ∨ 4611686018427387904 < (if at_ = 0 then v / 4 else v) ∨ numB (if at_ = 0 then v / 4 else v) ≠ l.take (at_ + size) then none else some ((if at_ = 0 then v / 4 else v), at_ + size))) := by
  obtain ⟨k, rfl⟩ : ∃ q, k = q + 1 := ⟨k - 1, by omega⟩
  have i1 : wrap64 ((at_ : Int) + (size : Int)) = ((at_ + size : Nat) : Int) := by rw [wrap_in (by omega) (by omega)]; omega
  have hinj : ∀ n : Int, ((strOfNums (numB n)).toList = (strOfNums (l.take (at_ + size))).toList) ↔ numB n = l.take (at_ + size) := fun n => strOf_inj (numB_bytes n) (hl.take _)
  have htn : ((((at_ + size : Nat)) : Int)).toNat = at_ + size := by omega
  rw [althingref1_Take.l0, if_neg (by omega), i1]
  simp only [rnum_tells k _ (show 15 ≤ k by omega), Option.bind_some, htn, hinj]
  have c1 : (0 : Int) ≤ ((at_ + size : Nat) : Int) := by omega
  have c2 : (((at_ + size : Nat)) : Int) ≤ (l.length : Int) := by omega
  have fin : ∀ n : Int, (if n < 0 then some (0, 0, false) else if n > 4611686018427387904 then some (0, 0, false) else if (0 : Int) ≤ ((at_ + size : Nat) : Int) then if (((at_ + size : Nat)) : Int) ≤ (l.length : Int) then if numB n = l.take (at_ + size) then some (n, (((at_ + size : Nat)) : Int), true) else some (0, 0, false) else none else none) =
      some (outT (if n < 0 ∨ 4611686018427387904 < n ∨ numB n ≠ l.take (at_ + size) then none else some (n, at_ + size))) := by
    intro n
    rw [if_pos c1, if_pos c2]
    by_cases h1 : n < 0
    · rw [if_pos h1, if_pos (Or.inl h1)]; rfl
    · rw [if_neg h1]
      by_cases h2 : 4611686018427387904 < n
      · rw [if_pos h2, if_pos (Or.inr (Or.inl h2))]; rfl
      · rw [if_neg h2]
        by_cases h3 : numB n = l.take (at_ + size)
        · rw [if_pos h3, if_neg (by simp [h1, h2, h3])]; rfl
        · rw [if_neg h3, if_pos (Or.inr (Or.inr h3))]; rfl
  by_cases h0 : at_ = 0
  · have z : (at_ : Int) = 0 := by omega
    rw [if_pos z, if_pos h0]
    exact fin _
  · have z : ¬ (at_ : Int) = 0 := by omega
    rw [if_neg z, if_neg h0]
    exact fin _

/-- With the head's size at hand: what both tell. -/
theorem takeAt_num {c : Int} {r : List Int} (hl : IsBytes (c :: r)) :
    takeN (c :: r) = if 9 < headSize c ∨ (c :: r).length < headSize c then none
      else if valAt c (c :: r) < 0 ∨ 4611686018427387904 < valAt c (c :: r) ∨ numB (valAt c (c :: r)) ≠ (c :: r).take (headSize c) then none else some (valAt c (c :: r), headSize c) := by
  by_cases ha : 9 < headSize c ∨ (c :: r).length < headSize c
  · rw [if_pos ha]; show takeAt c (c :: r) = none; unfold takeAt; rw [if_pos ha]
  · rw [if_neg ha]
    by_cases hb : valAt c (c :: r) < 0 ∨ 4611686018427387904 < valAt c (c :: r) ∨ numB (valAt c (c :: r)) ≠ (c :: r).take (headSize c)
    · rw [if_pos hb]
      cases e : takeN (c :: r) with
      | none => rfl
      | some x =>
        obtain ⟨n, s⟩ := x
        obtain ⟨q0, q1, q2, q3, q4⟩ := takeN_tells hl e
        change takeAt c (c :: r) = some (n, s) at e
        unfold takeAt at e
        rw [if_neg ha] at e
        split at e
        · cases e
        · injection e with e
          injection e with e1 e2
          rw [e1, e2] at hb
          rcases hb with h | h | h
          · omega
          · omega
          · exact absurd q4.symm h
    · rw [if_neg hb]
      have h3 : numB (valAt c (c :: r)) = (c :: r).take (headSize c) := Decidable.byContradiction fun h => hb (Or.inr (Or.inr h))
      show takeAt c (c :: r) = _
      unfold takeAt
      have hs : sizeN (valAt c (c :: r)) = headSize c := by
        rw [← numB_length, h3, List.length_take]; omega
      rw [if_neg ha, if_neg (by rw [hs]; omega)]

theorem rtake_tells (k : Nat) (l : List Int) (hl : IsBytes l) (hlen : l.length ≤ 4611686018427387904) (hk : 30 ≤ k) : althingref1_Take.f k l = some (outT (takeN l)) := by
  cases l with
  | nil => rfl
  | cons c r =>
    have hc := hl c (by simp)
    have hr0 : rd (c :: r) 0 = c := rfl
    have key : ∀ (at_ size : Nat), at_ ≤ 1 → 1 ≤ size → size ≤ 100 → at_ + size = headSize c → (at_ = 0 → size ≤ 4) → (if at_ = 0 then wrap64 (valB (((c :: r).drop at_).take size)) / 4 else wrap64 (valB (((c :: r).drop at_).take size))) = valAt c (c :: r) →
        althingref1_Take.j0 k (c :: r) at_ size = some (outT (takeN (c :: r))) := by
      intro at_ size h1 h2 h3 h4 h5 h6
      obtain ⟨k, rfl⟩ : ∃ q, k = q + 2 := ⟨k - 2, by omega⟩
      have i1 : wrap64 ((at_ : Int) + (size : Int)) = ((at_ + size : Nat) : Int) := by rw [wrap_in (by omega) (by omega)]; omega
      have i2 : wrap64 ((size : Int) - 1) = (size : Int) - 1 := wrap_in (by omega) (by omega)
      rw [althingref1_Take.j0, takeAt_num hl]
      by_cases ha : 8 < size
      · rw [if_pos (by omega), althingref1_Take.j1, if_pos rfl, if_pos (Or.inl (by omega))]; rfl
      · rw [if_neg (by omega), i1, althingref1_Take.j1]
        by_cases hb : (c :: r).length < at_ + size
        · rw [if_pos (by rw [decide_eq_true_eq]; omega), if_pos (Or.inr (by omega))]; rfl
        · rw [if_neg (by rw [decide_eq_true_eq]; omega), i2, if_neg (by omega)]
          obtain ⟨k, rfl⟩ : ∃ q, k = q + size := ⟨k - size, by omega⟩
          rw [rtake_loop (c :: r) hl at_ size h1 (by omega) (by omega) size k 0 (Nat.le_refl _) (by rw [List.drop_eq_nil_of_le (by rw [List.length_take]; omega)]; decide +kernel)]
          rw [rtake_end k (c :: r) hl at_ size h1 (by omega) h2 (by omega) _ (by omega), h6, h4]
    have hsm : ∀ s : Nat, s ≤ 4 → wrap64 (valB ((c :: r).take s)) = valB ((c :: r).take s) := by
      intro s hs
      have hb := valB_bound _ (hl.take s)
      have hp : (256 : Int) ^ ((c :: r).take s).length ≤ 4294967296 := by
        have hx : ((c :: r).take s).length ≤ 4 := Nat.le_trans (List.length_take_le s _) hs
        generalize ((c :: r).take s).length = q at hx
        have hq : q = 0 ∨ q = 1 ∨ q = 2 ∨ q = 3 ∨ q = 4 := by omega
        rcases hq with x | x | x | x | x <;> rw [x] <;> decide
      exact wrap_in hb.1 (by have := hb.2; omega)
    have hlen0 : ¬ (((c :: r).length : Nat) : Int) = 0 := by simp; omega
    have hlen1 : (0 : Int) < (((c :: r).length : Nat) : Int) := by simp
    unfold althingref1_Take.f
    rw [if_neg hlen0, Option.bind_some, if_pos hlen1, hr0, u8_and3 c hc.1 hc.2, if_pos (by omega), if_pos (by simp; omega)]
    by_cases c0 : c % 4 = 0
    · have hs : headSize c = 1 := by unfold headSize; rw [if_pos c0]
      rw [c0, show rd [1, 2, 4, 0] 0 = 1 from rfl, if_neg (by decide)]
      exact key 0 1 (by omega) (by omega) (by omega) (by omega) (by omega) (by unfold valAt; rw [if_pos rfl, if_neg (by omega), hs, List.drop_zero, hsm 1 (by omega)])
    · by_cases c1 : c % 4 = 1
      · have hs : headSize c = 2 := by unfold headSize; rw [if_neg c0, if_pos c1]
        rw [c1, show rd [1, 2, 4, 0] 1 = 2 from rfl, if_neg (by decide)]
        exact key 0 2 (by omega) (by omega) (by omega) (by omega) (by omega) (by unfold valAt; rw [if_pos rfl, if_neg (by omega), hs, List.drop_zero, hsm 2 (by omega)])
      · by_cases c2 : c % 4 = 2
        · have hs : headSize c = 4 := by unfold headSize; rw [if_neg c0, if_neg c1, if_pos c2]
          rw [c2, show rd [1, 2, 4, 0] 2 = 4 from rfl, if_neg (by decide)]
          exact key 0 4 (by omega) (by omega) (by omega) (by omega) (by omega) (by unfold valAt; rw [if_pos rfl, if_neg (by omega), hs, List.drop_zero, hsm 4 (by omega)])
        · have c3 : c % 4 = 3 := by omega
          have hs : headSize c = 5 + (c / 4).toNat := by unfold headSize; rw [if_neg c0, if_neg c1, if_neg c2]
          have e1 : wrap64 (c / 4) = c / 4 := wrap_in (by omega) (by omega)
          have e2 : wrap64 (c / 4 + 4) = ((4 + (c / 4).toNat : Nat) : Int) := by rw [wrap_in (by omega) (by omega)]; omega
          rw [c3, show rd [1, 2, 4, 0] 3 = 0 from rfl, if_pos rfl, e1, e2]
          refine key 1 (4 + (c / 4).toNat) (by omega) (by omega) (by omega) (by omega) (by omega) ?_
          unfold valAt
          rw [if_neg (by decide), if_pos c3, hs, List.drop_take]
          congr 3
          omega

end Go.Proofs.YtockdfnnhkhlkaaGreatDoor.PNum

/- compact.Take, plainly. -/
namespace Go.Proofs.YtockdfnnhkhlkaaGreatDoor.PNum
open Go.RowKit Go.Proofs.YtockdfnnhkhlkaaGreatDoor.G Go.Proofs.YtockdfnnhkhlkaaGreatDoorW.PrintWords Go.Proofs.YtockdfnnhkhlkaaGreatDoorW.PrintMore Go.Proofs.YtockdfnnhkhlkaaGreatDoorW.PrintLast
set_option linter.unusedVariables false
set_option linter.unusedSimpArgs false

theorem ctake_fin (k : Nat) (hk : 5 ≤ k) (v : Int) (x : Nat) :
    (if v < 0 then some ((0 : Int), (0 : Int), false) else if v > 4611686018427387904 then some (0, 0, false) else (compact_Size.f k v).bind fun t => if t = (x : Int) then some (v, (x : Int), true) else some (0, 0, false)) =
      some (outT (if v < 0 ∨ 4611686018427387904 < v ∨ sizeN v ≠ x then none else some (v, x))) := by
  by_cases h1 : v < 0
  · rw [if_pos h1, if_pos (Or.inl h1)]; rfl
  · rw [if_neg h1]
    by_cases h2 : 4611686018427387904 < v
    · rw [if_pos h2, if_pos (Or.inr (Or.inl h2))]; rfl
    · rw [if_neg h2, size_tells k v hk, Option.bind_some]
      by_cases h3 : sizeN v = x
      · rw [if_pos (by rw [h3]), if_neg (by simp [h1, h2, h3])]; rfl
      · rw [if_neg (by intro h; exact h3 (by omega)), if_pos (Or.inr (Or.inr h3))]; rfl

theorem small_val {l : List Int} (hl : IsBytes l) (s : Nat) (hs : s ≤ 4) : 0 ≤ valB (l.take s) ∧ valB (l.take s) < 4294967296 := by
  have hb := valB_bound _ (hl.take s)
  have hp : (256 : Int) ^ (l.take s).length ≤ 4294967296 := by
    have hx : (l.take s).length ≤ 4 := Nat.le_trans (List.length_take_le s _) hs
    generalize (l.take s).length = q at hx
    have hq : q = 0 ∨ q = 1 ∨ q = 2 ∨ q = 3 ∨ q = 4 := by omega
    rcases hq with x | x | x | x | x <;> rw [x] <;> decide
  exact ⟨hb.1, by have := hb.2; omega⟩

theorem ctake_tells (k : Nat) (l : List Int) (hl : IsBytes l) (hk : 10 ≤ k) : compact_Take.f k l = some (outT (takeN l)) := by
  cases l with
  | nil => rfl
  | cons c r =>
    have hc := hl c (by simp)
    have hr0 : rd (c :: r) 0 = c := rfl
    have t4 : Int.tmod c 4 = c % 4 := Int.tmod_eq_emod_of_nonneg hc.1
    have d4 : Int.tdiv c 4 = c / 4 := Int.tdiv_eq_ediv_of_nonneg hc.1
    have key : ∀ (s : Nat), 1 ≤ s → s ≤ 100 → s = headSize c → (c % 4 ≠ 3 → s ≤ 4) → compact_Take.j0 k (c :: r) s = some (outT (takeN (c :: r))) := by
      intro s h1 h2 h4 h5
      obtain ⟨k, rfl⟩ : ∃ q, k = q + 2 := ⟨k - 2, by omega⟩
      have hlen1 : (0 : Int) < (((c :: r).length : Nat) : Int) := by simp
      have s0 : (0 : Int) ≤ (s : Int) := by omega
      have s1 : (1 : Int) ≤ (s : Int) := by omega
      have stn : ((s : Int)).toNat = s := by omega
      show _ = some (outT (takeAt c (c :: r)))
      unfold takeAt
      rw [compact_Take.j0, ← h4]
      by_cases ha : 9 < s
      · rw [if_pos (by omega), compact_Take.j1, if_pos rfl, if_pos (Or.inl ha)]; rfl
      · rw [if_neg (by omega), compact_Take.j1]
        by_cases hb : (c :: r).length < s
        · rw [if_pos (by rw [decide_eq_true_eq]; omega), if_pos (Or.inr hb)]; rfl
        · have sl : (s : Int) ≤ (((c :: r).length : Nat) : Int) := by omega
          have hn : ¬ (9 < s ∨ (c :: r).length < s) := by omega
          have hd : ¬ (decide ((s : Int) > (((c :: r).length : Nat) : Int)) = true) := by rw [decide_eq_true_eq]; omega
          rw [if_neg hd, if_neg hn, if_pos hlen1, hr0, t4]
          by_cases c3 : c % 4 = 3
          · have hv : valAt c (c :: r) = wrap64 (valB (((c :: r).take s).drop 1)) := by unfold valAt; rw [if_pos c3, ← h4]
            rw [if_pos c3, if_pos s1, if_pos sl, stn, number_tells, Option.bind_some, hv]
            exact ctake_fin k (by omega) _ s
          · have hq := small_val hl s (h5 c3)
            have hw : wrap64 (valB ((c :: r).take s)) = valB ((c :: r).take s) := wrap_in hq.1 (by omega)
            have hd4 : Int.tdiv (valB ((c :: r).take s)) 4 = valB ((c :: r).take s) / 4 := Int.tdiv_eq_ediv_of_nonneg hq.1
            have hw4 : wrap64 (valB ((c :: r).take s) / 4) = valB ((c :: r).take s) / 4 := wrap_in (by omega) (by omega)
            have hv : valAt c (c :: r) = valB ((c :: r).take s) / 4 := by unfold valAt; rw [if_neg c3, ← h4]
            rw [if_neg c3, if_pos s0, if_pos sl, stn, number_tells, Option.bind_some, hv, hw, hd4, hw4]
            exact ctake_fin k (by omega) _ s
    have hlen0 : ¬ (((c :: r).length : Nat) : Int) = 0 := by simp; omega
    have hlen1 : (0 : Int) < (((c :: r).length : Nat) : Int) := by simp
    unfold compact_Take.f
    rw [if_neg hlen0, if_pos hlen1, hr0, t4, d4]
    by_cases c0 : c % 4 = 0
    · rw [if_pos c0]
      exact key 1 (by omega) (by omega) (by unfold headSize; rw [if_pos c0]) (by omega)
    · rw [if_neg c0]
      by_cases c1 : c % 4 = 1
      · rw [if_pos c1]
        exact key 2 (by omega) (by omega) (by unfold headSize; rw [if_neg c0, if_pos c1]) (by omega)
      · rw [if_neg c1]
        by_cases c2 : c % 4 = 2
        · rw [if_pos c2]
          exact key 4 (by omega) (by omega) (by unfold headSize; rw [if_neg c0, if_neg c1, if_pos c2]) (by omega)
        · rw [if_neg c2]
          have e : (5 : Int) + c / 4 % 256 = ((5 + (c / 4).toNat : Nat) : Int) := by omega
          rw [e]
          exact key (5 + (c / 4).toNat) (by omega) (by omega) (by unfold headSize; rw [if_neg c0, if_neg c1, if_neg c2]) (by omega)

end Go.Proofs.YtockdfnnhkhlkaaGreatDoor.PNum

/- What ranges over functions need. -/
namespace Go.Proofs.YtockdfnnhkhlkaaGreatDoor.G
open Go.RowKit Go.Shelf Go.Proofs.YtockdfnnhkhlkaaGreatDoorW Go.Proofs.YtockdfnnhkhlkaaGreatDoorW.PrintWords Go.Proofs.YtockdfnnhkhlkaaGreatDoor.PNum
set_option linter.unusedVariables false
set_option linter.unusedSimpArgs false
attribute [local go_sem] Oper.semAt_some

theorem below_grown {W W' : World} (h : Below W.heap.size W W') : W.grownBy W' none := ⟨h.os, h.tape, h.output, h.size, fun k hk _ => h.block k hk⟩
theorem abides_below {β : Type} {B : Nat} {J : β → World → Prop} (hJ : AbidesFrom B J) {s : β} {W W' : World} (h : J s W) (hb : Below W.heap.size W W') : J s W' := hJ s W W' none h (below_grown hb) (fun r e => by cases e)
theorem C_keeps {k : IntKind} {S : Nat → Prop} {W W' : World} {A : Option Addr} {n : Nat} {xs : List Int} (h : Kd.C (Kd.int k) W A n xs) (hA : ∀ ad, A = some ad → 0 < n → S ad.block) (hk : KeepsS S W W') : Kd.C (Kd.int k) W' A n xs := by
  refine ⟨h.1, h.2.1, fun h0 => ?_⟩
  obtain ⟨ad, e, hc⟩ := h.2.2 h0
  refine ⟨ad, e, fun j p hj => ?_⟩
  obtain ⟨c, hl, hr, hcell⟩ := hc j p hj
  refine ⟨c, hl, hr, fun i u hu => ?_⟩
  have hlt := hA ad e h0
  have hq := World.cell?_of_block (w := W) (w' := W') (a := ad.add (j * (Kd.int k).sz + i)) (by rw [addr_block]; exact hk.2 _ hlt)
  rw [hq]; exact hcell i u hu
theorem cut_tail (t e : TypeId) {P : Program} {i : TypeInfo} (ht : P.underlying t = some (.slice e)) (hi : P.info? e = some i) (hsz : i.size = 1) (A : Option Addr) (c : Nat) (xs : List Int) (j : Nat) (hm : j ≤ xs.length) (hc : xs.length ≤ c) :
    ∃ A' : Option Addr, (∀ W : World, (Instr.slice t (.slice A xs.length c) (some (.int .i64 (j : Int))) none none).run P W = .ok (.slice A' (xs.length - j) (c - j)) W) ∧
      (∀ (k : IntKind) (w : World), Kd.C (Kd.int k) w A xs.length xs → Kd.C (Kd.int k) w A' (xs.drop j).length (xs.drop j)) ∧ xs.length - j ≤ c - j ∧ (∀ ad', A' = some ad' → ∃ ad, A = some ad ∧ ad'.block = ad.block) := by
  refine ⟨if c = j then A else A.map (·.add (j * 1)), fun W => ?_, fun k w h => Kd.C_drop h hm hc, by omega, ?_⟩
  · exact cut_from (P := P) t e .i64 ht hi 1 hsz A xs.length c (j : Int) (by omega) (by omega) W
  · intro ad' e'
    by_cases h : c = j
    · rw [if_pos h] at e'; exact ⟨ad', e', rfl⟩
    · rw [if_neg h] at e'
      cases A with
      | none => cases e'
      | some ad => simp at e'; subst e'; exact ⟨ad, rfl, addr_block _ _⟩
theorem takeN_size {b : List Int} {n : Int} {s : Nat} (h : takeN b = some (n, s)) : 1 ≤ s ∧ s ≤ b.length := by
  cases b with
  | nil => cases h
  | cons c r =>
    change takeAt c (c :: r) = some (n, s) at h
    unfold takeAt at h
    split at h
    · cases h
    · split at h
      · cases h
      · injection h with h
        injection h with h1 h2
        have h3 : 1 ≤ headSize c := by unfold headSize; (repeat' split) <;> omega
        omega
def sliceLen : Value → Nat
  | .slice _ n _ => n
  | _ => 0
/-- A function value is not nil. -/
theorem run_equalIn_func {P : Program} (W : World) (d t : Nat) {x y : Array TypeId} {z : Bool} (h : P.underlying t = some (.func x y z)) (f : Fn) (ts bs : Array Value) : (Op.equalIn (d + 1) t (.func f ts bs) .nilFunc).run P W = .ok false W := by
  simp [Op.equalIn, run_underlying h]
theorem run_eql_func {P : Program} (W : World) (t : Nat) {x y : Array TypeId} {z : Bool} (h : P.underlying t = some (.func x y z)) (f : Fn) (ts bs : Array Value) : (binOp .eql t (.func f ts bs) .nilFunc).run P W = .ok (.bool false) W := by
  simp only [binOp]
  simp [Op.equal, Op.maxDepth, run_equalIn_func W 9999 t h f ts bs]
theorem boxed_putObj {W : World} {B l : Nat} {t : TypeId} {u : Value} (h : Boxed W B t u) {o : Obj} (o' : Obj) (hl : W.heap[l]? = some o) (ho : o.isCells = false) : Boxed (W.putObj l o') B t u := by
  refine h.kept (grownBy_putObj' W l o') (fun e' => ?_)
  cases e'
  rw [show W.heap[B]? = _ from h] at hl; cases hl; cases ho

end Go.Proofs.YtockdfnnhkhlkaaGreatDoor.G

/- The reference's Cut: what it hands back lies in the slice that came in. -/
namespace Go.Proofs.YtockdfnnhkhlkaaGreatDoor.G
open Go.RowKit Go.Proofs.YtockdfnnhkhlkaaGreatDoorW.PrintWords Go.Proofs.YtockdfnnhkhlkaaGreatDoorW.PrintLast Go.Proofs.YtockdfnnhkhlkaaGreatDoorW.PrintMore
attribute [local go_sem] max2_int min2_int max_two min_two max_three min_three max_four min_four
set_option linter.unusedVariables false
set_option linter.unusedSimpArgs false

/-- A slice of bytes that lies in memory below B: it reads as xs. -/
def RD (B : Nat) (W : World) (v : Value) (xs : List Int) : Prop :=
  (∃ A c, v = .slice A xs.length c ∧ Kd.C (Kd.int .u8) W A xs.length xs ∧ xs.length ≤ c) ∧ (∀ k, v.ownBlock = some k → k < B) ∧ B ≤ W.heap.size

def althingref1_Cut.f (k : Nat) (l0 : List Int) : Option (List Int × Int × Bool) := (althingref1_Take.f k l0).bind fun bt =>
  if bt.2.2 = true then (if bt.1 > wrap64 ((l0.length : Int) - bt.2.1) then some ([], 0, false) else (if 0 ≤ bt.2.1 then (if bt.2.1 ≤ wrap64 (bt.2.1 + bt.1) then (if wrap64 (bt.2.1 + bt.1) ≤ (l0.length : Int) then some ((l0.take (wrap64 (bt.2.1 + bt.1)).toNat).drop bt.2.1.toNat, wrap64 (bt.2.1 + bt.1), true) else none) else none) else none)) else some ([], 0, false)

set_option maxHeartbeats 4000000 in
set_option maxRecDepth 100000 in
theorem althingref1_Cut.calls (k : Nat) (A0 : Option Addr) (c0 : Nat) (l0 : List Int) (r1 : List Int) (r2 : Int) (r3 : Bool) (B : Nat) (w : World) (hr0 : Kd.C (Kd.int .u8) w A0 l0.length l0) (hA : ∀ ad, A0 = some ad → 0 < l0.length → ad.block < B) (hBw : B ≤ w.heap.size) (hc0 : l0.length ≤ c0) (h : althingref1_Cut.f k l0 = some (r1, r2, r3)) :
    Calls Tryz.prog 87 #[.slice A0 l0.length c0] w fun e w' => ∃ v0_ : Value, e = .returned (.tuple #[v0_, .int .i64 r2, .bool r3]) ∧ RD B w' v0_ r1 ∧ Below w.heap.size w w' := by
  have HR0 := Aside0.mk hr0
  have HA := Aside0.mk hA
  clear hr0 hA
  have nilR : ∀ W : World, B ≤ W.heap.size → RD B W (.slice none 0 0) [] := fun W hW => ⟨⟨none, 0, rfl, Kd.C_nil _ _, Nat.le_refl _⟩, fun k hk => (by simp [Value.ownBlock] at hk), hW⟩
  have H : ((althingref1_Take.f k l0).bind fun bt =>
    if bt.2.2 = true then (if bt.1 > wrap64 ((l0.length : Int) - bt.2.1) then some ([], 0, false) else (if 0 ≤ bt.2.1 then (if bt.2.1 ≤ wrap64 (bt.2.1 + bt.1) then (if wrap64 (bt.2.1 + bt.1) ≤ (l0.length : Int) then some ((l0.take (wrap64 (bt.2.1 + bt.1)).toNat).drop bt.2.1.toNat, wrap64 (bt.2.1 + bt.1), true) else none) else none) else none)) else some ([], 0, false)) = some (r1, r2, r3) := h
  clear h
  obtain ⟨⟨t1, t2, t3⟩, A2, H⟩ := Option.bind_eq_some_iff.mp H
  have A2 := Aside0.mk A2
  dsimp only at H
  cases t3 with
  | false =>
    rw [if_neg (by decide)] at H
    simp only [Option.some.injEq, Prod.mk.injEq] at H
    obtain ⟨rfl, rfl, rfl⟩ := H
    go_enter Tryz.func87, Tryz.ntmps87
    go_wp2_with (go_at_call 149; ((with_reducible refine (althingref1_Take.calls k _ _ l0 t1 t2 false _ HR0.out hc0 A2.out).mono ?_)); rintro e w1 ⟨rfl, hb⟩; have HB := Aside0.mk hb; clear hb)
    go_ret3
    exact ⟨_, rfl, nilR _ (Nat.le_trans hBw HB.out.size), HB.out⟩
  | true =>
    rw [if_pos rfl] at H
    by_cases c4 : t1 > wrap64 ((l0.length : Int) - t2)
    · rw [if_pos c4] at H
      have c4b0 : decide (wrap64 ((l0.length : Int) - t2) < t1) = true := decide_eq_true c4
      clear c4
      simp only [Option.some.injEq, Prod.mk.injEq] at H
      obtain ⟨rfl, rfl, rfl⟩ := H
      go_enter Tryz.func87, Tryz.ntmps87
      go_wp2_with (go_at_call 149; ((with_reducible refine (althingref1_Take.calls k _ _ l0 t1 t2 true _ HR0.out hc0 A2.out).mono ?_)); rintro e w1 ⟨rfl, hb⟩; have HB := Aside0.mk hb; clear hb)
      go_ret3
      exact ⟨_, rfl, nilR _ (Nat.le_trans hBw HB.out.size), HB.out⟩
    · rw [if_neg c4] at H
      have c4b0 : decide (wrap64 ((l0.length : Int) - t2) < t1) = false := decide_eq_false c4
      clear c4
      obtain ⟨q, hq⟩ : ∃ q, wrap64 (t2 + t1) = q := ⟨_, rfl⟩
      rw [hq] at H
      by_cases c6 : 0 ≤ t2
      · rw [if_pos c6] at H
        by_cases c7 : t2 ≤ q
        · rw [if_pos c7] at H
          by_cases c8 : q ≤ (l0.length : Int)
          · rw [if_pos c8] at H
            simp only [Option.some.injEq, Prod.mk.injEq] at H
            obtain ⟨rfl, rfl, rfl⟩ := H
            obtain ⟨i0, hi0, _, hsz, _⟩ := info_parts info5
            have hcut := cut_mid (P := Tryz.prog) 50 5 .i64 .i64 Tryz.underlying50 hi0 1 hsz A0 l0.length c0 t2 q c6 c7 c8 hc0
            obtain ⟨A', hA'⟩ : ∃ A', (if c0 = t2.toNat then A0 else A0.map (·.add (t2.toNat * 1))) = A' := ⟨_, rfl⟩
            rw [hA'] at hcut
            have hA' := Lib.hid hA'
            have hmid := Aside0.mk (fun (W : World) (hC : Kd.C (Kd.int .u8) W A0 l0.length l0) => Kd.C_mid (lo := t2.toNat) (hi := q.toNat) (c := c0) hC (by omega) (by omega) hc0)
            have hlen : ((l0.take q.toNat).drop t2.toNat).length = q.toNat - t2.toNat := by rw [List.length_drop, List.length_take]; omega
            have hcap : ((l0.take q.toNat).drop t2.toNat).length ≤ c0 - t2.toNat := by rw [hlen]; omega
            have hlen := Lib.hid hlen
            have hcap := Lib.hid hcap
            have hpos : 0 < (q.toNat - t2.toNat) → 0 < l0.length := by omega
            have hpos := Lib.hid hpos
            go_enter Tryz.func87, Tryz.ntmps87
            go_wp2_with (go_at_call 149; ((with_reducible refine (althingref1_Take.calls k _ _ l0 t1 t2 true _ HR0.out hc0 A2.out).mono ?_)); rintro e w1 ⟨rfl, hb⟩; have HB := Aside0.mk hb; clear hb)
            go_ret3
            have hM := hmid.out _ (Kd.C_below HR0.out HB.out)
            rw [show (Kd.int .u8).sz = 1 from rfl, hA'.out] at hM
            refine ⟨.slice A' (q.toNat - t2.toNat) (c0 - t2.toNat), by rw [← hq]; rfl, ⟨⟨A', c0 - t2.toNat, ?_, hM, ?_⟩, ?_, ?_⟩, HB.out⟩
            · rw [hlen.out]
            · exact hcap.out
            · intro k hk
              have hp : 0 < l0.length := by
                rcases Nat.eq_zero_or_pos l0.length with h0 | h0
                · obtain rfl := List.length_eq_zero_iff.1 h0
                  have := A2.out
                  simp [althingref1_Take.f] at this
                · exact h0
              have hA' := hA'.out
              cases A0 with
              | none => simp at hA'; subst hA'; simp [Value.ownBlock] at hk
              | some ad =>
                have := HA.out ad rfl hp
                by_cases hc : c0 = t2.toNat
                · simp [hc] at hA'; subst hA'; simp [Value.ownBlock] at hk; omega
                · simp [hc] at hA'; subst hA'; simp [Value.ownBlock, addr_block] at hk; omega
            · exact Nat.le_trans hBw HB.out.size
          · rw [if_neg c8] at H; cases H
        · rw [if_neg c7] at H; cases H
      · rw [if_neg c6] at H; cases H

end Go.Proofs.YtockdfnnhkhlkaaGreatDoor.G

/- Rows, plainly (without what chapter 1 asks of them). -/
namespace Go.Proofs.YtockdfnnhkhlkaaGreatDoor.PNum
open Go.RowKit Go.Proofs.YtockdfnnhkhlkaaGreatDoor.G Go.Proofs.YtockdfnnhkhlkaaGreatDoorW.PrintWords Go.Proofs.YtockdfnnhkhlkaaGreatDoorW.PrintMore Go.Proofs.YtockdfnnhkhlkaaGreatDoorW.PrintLast
set_option linter.unusedVariables false
set_option linter.unusedSimpArgs false

/-! ### Cut -/
def cutN (b : List Int) : Option (List Int × Nat) :=
  match takeN b with
  | none => none
  | some (n, s) => if (b.length : Int) - s < n then none else some ((b.take (s + n.toNat)).drop s, s + n.toNat)
def outC : Option (List Int × Nat) → List Int × Int × Bool
  | none => ([], 0, false)
  | some (p, s) => (p, (s : Int), true)
theorem clone_tells (l : List Int) (h : l.length < 140737488355328) : slices_Clone_byte_byte.f l = some l := by
  unfold slices_Clone_byte_byte.f
  rw [Option.bind_some, if_pos (by simpa using h)]; rfl
theorem cut_tells (k : Nat) (b : List Int) (hb : IsBytes b) (hl : b.length < 140737488355328) (hk : 10 ≤ k) : compact_Cut.f k b = some (outC (cutN b)) := by
  unfold compact_Cut.f cutN
  rw [ctake_tells k b hb hk, Option.bind_some]
  cases e : takeN b with
  | none => rfl
  | some x =>
    obtain ⟨n, s⟩ := x
    obtain ⟨q0, q1, q2, q3, q4⟩ := takeN_tells hb e
    have hs := sizeN_range n
    rw [show outT (some (n, s)) = (n, (s : Int), true) from rfl]
    dsimp only
    have w1 : wrap64 ((b.length : Int) - (s : Int)) = (b.length : Int) - s := wrap_in (by omega) (by omega)
    have w2 : wrap64 ((s : Int) + n) = (s : Int) + n := wrap_in (by omega) (by omega)
    rw [if_pos rfl, w1, w2]
    by_cases h : n > (b.length : Int) - s
    · rw [if_pos h, if_pos (by omega)]; rfl
    · have c1 : (0 : Int) ≤ (s : Int) := by omega
      have c2 : (s : Int) ≤ (s : Int) + n := by omega
      have c3 : (s : Int) + n ≤ (b.length : Int) := by omega
      have t1 : ((s : Int) + n).toNat = s + n.toNat := by omega
      have t2 : ((s : Int)).toNat = s := by omega
      have hc : ((b.take (s + n.toNat)).drop s).length < 140737488355328 := by rw [List.length_drop, List.length_take]; omega
      have hneg : ¬ ((b.length : Int) - s < n) := by omega
      rw [if_neg h, if_pos c1, if_pos c2, if_pos c3, t1, t2, clone_tells _ hc, Option.bind_some, if_neg hneg]
      show some (_, _, true) = some (_, _, true)
      congr 3
      omega
theorem rcut_tells (k : Nat) (b : List Int) (hb : IsBytes b) (hl : b.length < 140737488355328) (hk : 30 ≤ k) : althingref1_Cut.f k b = some (outC (cutN b)) := by
  unfold althingref1_Cut.f cutN
  rw [rtake_tells k b hb (by omega) hk, Option.bind_some]
  cases e : takeN b with
  | none => rfl
  | some x =>
    obtain ⟨n, s⟩ := x
    obtain ⟨q0, q1, q2, q3, q4⟩ := takeN_tells hb e
    have hs := sizeN_range n
    rw [show outT (some (n, s)) = (n, (s : Int), true) from rfl]
    dsimp only
    have w1 : wrap64 ((b.length : Int) - (s : Int)) = (b.length : Int) - s := wrap_in (by omega) (by omega)
    have w2 : wrap64 ((s : Int) + n) = (s : Int) + n := wrap_in (by omega) (by omega)
    rw [if_pos rfl, w1, w2]
    by_cases h : n > (b.length : Int) - s
    · rw [if_pos h, if_pos (by omega)]; rfl
    · have c1 : (0 : Int) ≤ (s : Int) := by omega
      have c2 : (s : Int) ≤ (s : Int) + n := by omega
      have c3 : (s : Int) + n ≤ (b.length : Int) := by omega
      have t1 : ((s : Int) + n).toNat = s + n.toNat := by omega
      have t2 : ((s : Int)).toNat = s := by omega
      have hneg : ¬ ((b.length : Int) - s < n) := by omega
      rw [if_neg h, if_pos c1, if_pos c2, if_pos c3, t1, t2, if_neg hneg]
      show some (_, _, true) = some (_, _, true)
      congr 3
      omega

end Go.Proofs.YtockdfnnhkhlkaaGreatDoor.PNum

/- compact.Rows: the iterator over the rows of bytes, and what it hands over. -/
namespace Go.Proofs.YtockdfnnhkhlkaaGreatDoor.G
open Go.RowKit Go.Shelf Go.Proofs.YtockdfnnhkhlkaaGreatDoorW Go.Proofs.YtockdfnnhkhlkaaGreatDoorW.PrintWords Go.Proofs.YtockdfnnhkhlkaaGreatDoorW.PrintMore Go.Proofs.YtockdfnnhkhlkaaGreatDoor.PNum
set_option linter.unusedVariables false
set_option linter.unusedSimpArgs false
attribute [local go_sem] Oper.semAt_some

theorem cutN_size {b p : List Int} {s : Nat} (h : cutN b = some (p, s)) : 1 ≤ s ∧ s ≤ b.length ∧ p.length ≤ s := by
  unfold cutN at h
  cases hT : takeN b with
  | none => rw [hT] at h; cases h
  | some x =>
    obtain ⟨n, t⟩ := x
    rw [hT] at h
    have ht := takeN_size hT
    dsimp only at h
    split at h
    · cases h
    · injection h with h
      injection h with h1 h2
      subst h1 h2
      refine ⟨by omega, ?_, ?_⟩
      · rcases Nat.lt_or_ge b.length (t + n.toNat) with h | h
        · omega
        · exact h
      · rw [List.length_drop, List.length_take]; omega

/-- All rows that stand one behind the other at the front. -/
def rowsF : Nat → List Int → List (List Int)
  | 0, _ => []
  | f + 1, b => match cutN b with
    | none => []
    | some (p, s) => p :: rowsF f (b.drop s)
def rowsL (b : List Int) : List (List Int) := rowsF (b.length + 1) b
theorem rowsF_more (f g : Nat) : ∀ b : List Int, b.length < f → b.length < g → rowsF f b = rowsF g b := by
  induction f generalizing g with
  | zero => intro b h; omega
  | succ f ih =>
    intro b h1 h2
    cases g with
    | zero => omega
    | succ g =>
      unfold rowsF
      cases hT : cutN b with
      | none => rfl
      | some x =>
        obtain ⟨n, s⟩ := x
        have hs := cutN_size hT
        dsimp only
        rw [ih g (b.drop s) (by rw [List.length_drop]; omega) (by rw [List.length_drop]; omega)]
theorem rowsL_none {b : List Int} (h : cutN b = none) : rowsL b = [] := by simp [rowsL, rowsF, h]
theorem rowsL_some {b p : List Int} {s : Nat} (h : cutN b = some (p, s)) : rowsL b = p :: rowsL (b.drop s) := by
  have hs := cutN_size h
  unfold rowsL
  rw [rowsF, h]
  dsimp only
  rw [rowsF_more b.length ((b.drop s).length + 1) (b.drop s) (by rw [List.length_drop]; omega) (by omega)]

/-- Places beside what stands there. -/
def placedFrom {β : Type} : Nat → List β → List (Int × β)
  | _, [] => []
  | i, x :: l => ((i : Int), x) :: placedFrom (i + 1) l
def placed {β : Type} (l : List β) : List (Int × β) := placedFrom 0 l
theorem placedFrom_snoc {β : Type} (l : List β) (v : β) : ∀ i, placedFrom i (l ++ [v]) = placedFrom i l ++ [(((i + l.length : Nat) : Int), v)] := by
  induction l with
  | nil => intro i; simp [placedFrom]
  | cons x l ih => intro i; simp only [List.cons_append, placedFrom, ih, List.length_cons]; congr 3; simp; omega
theorem placed_snoc {β : Type} (l : List β) (v : β) : placed (l ++ [v]) = placed l ++ [((l.length : Int), v)] := by unfold placed; rw [placedFrom_snoc]; simp
theorem placed_length {β : Type} (l : List β) : (placed l).length = l.length := by
  have : ∀ i, (placedFrom i l).length = l.length := by
    induction l with
    | nil => intro i; rfl
    | cons x l ih => intro i; simp [placedFrom, ih]
  exact this 0
theorem placed_snds {β : Type} (l : List β) : (placed l).map (·.2) = l := by
  have : ∀ i, (placedFrom i l).map (·.2) = l := by
    induction l with
    | nil => intro i; rfl
    | cons x l ih => intro i; simp [placedFrom, ih]
  exact this 0

/-- What is handed over: the place, the row's value, the row. -/
abbrev RowAt := Int × Value × List Int
def bare (x : RowAt) : Int × List Int := (x.1, x.2.2)
/-- What holds of it where it is handed over: a row of its own, newer than all that was there (m). -/
def RowT (b : List Int) (pre : List RowAt) (x : RowAt) (m : Nat) (W : World) : Prop :=
  x.1 = (pre.length : Int) ∧ (rowsL b)[pre.length]? = some x.2.2 ∧ Kd.R (Kd.int .u8) 5 W m (fun _ => True) x.2.1 x.2.2

set_option maxRecDepth 100000 in
set_option maxHeartbeats 4000000 in
theorem rows1_in (n : Nat) (hn : 1 ≤ n) (l Bb Bn : Nat) (A : Option Addr) (cap : Nat) (b : List Int) (hb : IsBytes b) (hbl : b.length < 140737488355328) (hcap : b.length ≤ cap) (S : Nat → Prop) (hSb : S Bb) (hSn : S Bn) (hA : ∀ ad, A = some ad → 0 < b.length → S ad.block) (W : World) (hSW : ∀ k, S k → k < W.heap.size) (J Jx : List RowAt → World → Prop) (hJ : AbidesFrom W.heap.size J)
    (hY : ∀ pre x W0 W1, J pre W0 → pre.length < (rowsL b).length → Below W0.heap.size W0 W1 → RowT b pre x W0.heap.size W1 → YieldAt Fence.wide (n - 1) Tryz.prog l #[.int .i64 x.1, x.2.1] W1 fun e W' =>
      (e = .returned (.bool true) ∧ J (pre ++ [x]) W' ∧ KeepsS S W1 W') ∨ (e = .returned (.bool false) ∧ Jx (pre ++ [x]) W'))
    (hBb : W.cell? ⟨Bb, 0, none⟩ = some (.slice A b.length cap)) (hBn : W.cell? ⟨Bn, 0, none⟩ = some (.func (.func 89) #[] #[])) (hC : Kd.C (Kd.int .u8) W A b.length b) (h0 : J [] W) :
    CallsIn Fence.wide n Tryz.prog 150 #[.func (.yield l) #[] #[], .pointer (some ⟨Bb, 0, none⟩), .pointer (some ⟨Bn, 0, none⟩)] W fun e W' => (∃ v, e = .returned v) ∧
      ((∃ ys : List RowAt, ys.map bare = placed (rowsL b) ∧ J ys W') ∨ (∃ pre : List RowAt, (∃ ns, ns <+: rowsL b ∧ pre.map bare = placed ns) ∧ Jx pre W')) := by
  refine callsIn_of_wp Tryz.func150 rfl trivial ?_ rfl
  simp only [Tryz.ntmps150, List.size_toArray, List.length_cons, List.length_nil, Nat.reduceAdd, Nat.reduceSub, Array.replicate_succ, Array.replicate_zero, List.push_toArray, List.append_toArray, List.nil_append, List.cons_append]
  obtain ⟨i0, hi0, _, hsz, _⟩ := info_parts info5
  gi_wp2
  gi_loopw [4, 5] (fun left i wr => ∃ (ns : List (List Int)) (pre : List RowAt) (A' : Option Addr) (c' : Nat) (r : List Int), left = .slice A' r.length c' ∧ i = .int .i64 (ns.length : Int) ∧ rowsL b = ns ++ rowsL r ∧ pre.map bare = placed ns ∧ Kd.C (Kd.int .u8) wr A' r.length r ∧ r.length ≤ c' ∧ IsBytes r ∧ (∀ ad, A' = some ad → 0 < r.length → S ad.block) ∧ ns.length + r.length ≤ b.length ∧ J pre wr ∧ KeepsS S W wr)
    (fun left i _ => sliceLen left)
  case atStart => exact ⟨[], [], A, cap, b, rfl, rfl, rfl, rfl, hC, hcap, hb, hA, by simp, h0, KeepsS.refl _ _⟩
  case round =>
    obtain ⟨ns, pre, A', c', r, rfl, rfl, hsp, hpre, hC', hc', hbr, hA', hlen, hJs, hnx⟩ := hrel
    have hsize := hnx.1
    have hBx := (hnx.cell (p := ⟨Bn, 0, none⟩) hSn).trans hBn
    have ht := cut_tells 20 r hbr (by omega) (by decide)
    have hA'w : ∀ (k : Nat), S k → k < wr.heap.size := fun k hk => Nat.lt_of_lt_of_le (hSW k hk) hsize
    have hpl : pre.length = ns.length := by have := congrArg List.length hpre; rwa [List.length_map, placed_length] at this
    cases hT : cutN r with
    | none =>
      rw [hT] at ht
      have ht' := Lib.hid ht
      have hsp' := Lib.hid hsp
      have hpre' := Lib.hid hpre
      have hT' := Lib.hid hT
      have hpl' := Lib.hid hpl
      clear ht hsp hT hpre hpl
      gi_wp2_with (refine ⟨trivial, ?_⟩; gi_at_call 89; refine (callsIn_wide.2 (compact_Cut.calls 20 _ _ r [] 0 false _ hC' hc' ht'.out)).mono ?_; rintro e w1 ⟨v0, rfl, hv0, hb1⟩)
      refine ⟨fun _ h => (by cases h), ?_⟩
      gi_wp2
      refine bodyPost_ret (results_none rfl _ _ _) rfl ?_
      exact ⟨⟨_, rfl⟩, .inl ⟨_, by rw [hpre'.out, hsp'.out, rowsL_none hT'.out, List.append_nil], abides_below hJ hJs hb1⟩⟩
    | some x =>
      obtain ⟨v, s⟩ := x
      have hs := cutN_size hT
      have hn1 : rowsL b = (ns ++ [v]) ++ rowsL (r.drop s) := by rw [hsp, rowsL_some hT]; simp
      have hlt : pre.length < (rowsL b).length := by rw [hpl, hn1]; simp
      have hat : (rowsL b)[pre.length]? = some v := by rw [hpl, hn1, List.append_assoc, List.getElem?_append_right (Nat.le_refl _)]; simp
      obtain ⟨A2, hcut, hCr, hcc, hAA⟩ := cut_tail (P := Tryz.prog) 50 5 Tryz.underlying50 hi0 hsz A' c' r s hs.2.1 hc'
      have hrl : (r.drop s).length = r.length - s := List.length_drop
      have hw : IntKind.i64.wrap ((ns.length : Int) + 1) = ((ns ++ [v]).length : Int) := by
        have := hC.2.1
        rw [IntWalk.i64_in _ (by omega)]; simp
      have hsi : (s : Int) ≤ (r.length : Int) := by omega
      have hsi0 : (0 : Int) ≤ (s : Int) := by omega
      rw [hT] at ht
      have ht' := Lib.hid ht
      have hsp' := Lib.hid hsp
      have hn1' := Lib.hid hn1
      have hrl' := Lib.hid hrl
      have hw' := Lib.hid hw
      have hs' := Lib.hid hs
      have hT' := Lib.hid hT
      have hlt' := Lib.hid hlt
      have hat' := Lib.hid hat
      have hpre' := Lib.hid hpre
      have hpl' := Lib.hid hpl
      clear ht hsp hn1 hrl hw hs hT hlt hat hpre hpl
      gi_wp2_with (refine ⟨trivial, ?_⟩; gi_at_call 89; refine (callsIn_wide.2 (compact_Cut.calls 20 _ _ r v s true _ hC' hc' ht'.out)).mono ?_; rintro e w1 ⟨v0, rfl, hv0, hb1⟩; obtain ⟨fn, tmps, assign, body, hy, hR⟩ := hY pre ((ns.length : Int), v0, v) wr w1 hJs hlt'.out hb1 ⟨congrArg Int.ofNat hpl'.out.symm, hat'.out, hv0⟩; dsimp only at hy)
      refine hR.mono ?_
      rintro e W3 (⟨rfl, hJ3, hk3⟩ | ⟨rfl, hJx3⟩)
      · have hk1 : KeepsS S wr w1 := KeepsS.of_below hb1 hA'w
        have hC3 : Kd.C (Kd.int .u8) W3 A2 (r.drop s).length (r.drop s) := by
          refine hCr .u8 W3 (C_keeps hC' hA' (keepsS_t hk1 hk3))
        gi_wp2
        go_roundw
        case rel =>
          refine ⟨ns ++ [v], pre ++ [((ns.length : Int), v0, v)], A2, c' - s, r.drop s, ?_, ?_, hn1'.out, ?_, hC3, ?_, hbr.drop s, ?_, ?_, hJ3, keepsS_t (keepsS_t hnx hk1) hk3⟩
          · rw [hrl'.out]
          · simp
          · rw [List.map_append, hpre'.out, placed_snoc]; rfl
          · rw [hrl'.out]; exact hcc
          · intro ad' e' h'
            obtain ⟨ad, e1, e2⟩ := hAA ad' e'
            rw [e2]; exact hA' ad e1 (by rw [hrl'.out] at h'; omega)
          · rw [hrl'.out]; have := hs'.out; simp; omega
        case measure => have := hs'.out; simp [sliceLen]; omega
      · gi_wp2
        refine bodyPost_ret (results_none rfl _ _ _) rfl ?_
        exact ⟨⟨_, rfl⟩, .inr ⟨_, ⟨ns ++ [v], ⟨rowsL (r.drop s), hn1'.out.symm⟩, by rw [List.map_append, hpre'.out, placed_snoc]; rfl⟩, hJx3⟩⟩

set_option maxHeartbeats 1000000 in
theorem rowsAll_in (n : Nat) (a : Option Addr) (len cap : Nat) (w : World) :
    CallsIn Fence.wide n Tryz.prog 88 #[.slice a len cap, .func (.func 89) #[] #[]] w fun e w' => e = .returned (.func (.func 150) #[] #[.pointer (some ⟨w.heap.size, 0, none⟩), .pointer (some ⟨w.heap.size + 1, 0, none⟩)]) ∧ w' = (w.alloc (.cells #[.slice a len cap] 50)).alloc (.cells #[.func (.func 89) #[] #[]] 163) := by
  refine callsIn_of_wp Tryz.func88 rfl trivial ?_ rfl
  simp only [Tryz.ntmps88, List.size_toArray, List.length_cons, List.length_nil, Nat.reduceAdd, Nat.reduceSub, Array.replicate_succ, Array.replicate_zero, List.push_toArray, List.append_toArray, List.nil_append, List.cons_append]
  gi_wp2
  go_ret
  exact ⟨rfl, rfl⟩
set_option maxHeartbeats 1000000 in
theorem rows_in (n : Nat) (hn : 1 ≤ n) (a : Option Addr) (len cap : Nat) (w : World) :
    CallsIn Fence.wide n Tryz.prog 44 #[.slice a len cap] w fun e w' => e = .returned (.func (.func 150) #[] #[.pointer (some ⟨w.heap.size, 0, none⟩), .pointer (some ⟨w.heap.size + 1, 0, none⟩)]) ∧ w' = (w.alloc (.cells #[.slice a len cap] 50)).alloc (.cells #[.func (.func 89) #[] #[]] 163) := by
  refine callsIn_of_wp Tryz.func44 rfl trivial ?_ rfl
  simp only [Tryz.ntmps44, List.size_toArray, List.length_cons, List.length_nil, Nat.reduceAdd, Nat.reduceSub, Array.replicate_succ, Array.replicate_zero, List.push_toArray, List.append_toArray, List.nil_append, List.cons_append]
  gi_wp2_with (refine ⟨trivial, ?_⟩; gi_at_call 88; refine (rowsAll_in _ _ _ _ _).mono ?_; rintro e w' ⟨rfl, rfl⟩)
  go_ret
  exact ⟨rfl, rfl⟩

theorem rows_stops (n : Nat) (hn : 1 ≤ n) (Bb Bn : Nat) (A : Option Addr) (cap : Nat) (b : List Int) (hb : IsBytes b) (hbl : b.length < 140737488355328) (hcap : b.length ≤ cap) (S : Nat → Prop) (hSb : S Bb) (hSn : S Bn) (hA : ∀ ad, A = some ad → 0 < b.length → S ad.block) (w : World) (hSw : ∀ k, S k → k < w.heap.size)
    (hBb : w.cell? ⟨Bb, 0, none⟩ = some (.slice A b.length cap)) (hBn : w.cell? ⟨Bn, 0, none⟩ = some (.func (.func 89) #[] #[])) (hC : Kd.C (Kd.int .u8) w A b.length b) :
    SeqT Fence.wide n Tryz.prog 150 #[.pointer (some ⟨Bb, 0, none⟩), .pointer (some ⟨Bn, 0, none⟩)] (fun x : RowAt => #[Value.int .i64 x.1, x.2.1]) (KeepsS S) (RowT b) (fun ys => ys.map bare = placed (rowsL b))
      (fun pre => ∃ ns, ns <+: rowsL b ∧ pre.map bare = placed ns) (rowsL b).length w := fun l J Jx W hW hJ _ hY h0 => by
  have hk := KeepsS.of_below hW hSw
  exact rows1_in n hn l Bb Bn A cap b hb hbl hcap S hSb hSn hA W (fun k h => Nat.lt_of_lt_of_le (hSw k h) hW.size) J Jx hJ hY ((hk.cell (p := ⟨Bb, 0, none⟩) hSb).trans hBb) ((hk.cell (p := ⟨Bn, 0, none⟩) hSn).trans hBn) (Kd.C_below hC hW) h0

theorem Boxed.at {W : World} {B : Nat} (hB : W.heap.size = B) (t : TypeId) (v : Value) : Boxed (W.alloc (.cells #[v] t)) B t v := by subst hB; exact Boxed.new W t v
theorem keeps_from {β : Type} {S : Nat → Prop} {A : World} {B : Nat} (hS : ∀ k, S k → k < B) (hA : ∀ k, S k → k < A.heap.size) : OwnFrom B (fun (_ : β) W => KeepsS S A W) := fun s X Y row hv hg hr =>
  keepsS_t hv ⟨hg.size, fun k hk => hg.block k (Nat.lt_of_lt_of_le (hA k hk) hv.1) (fun e => by have := (hr k e.symm).1; have := hS k hk; omega)⟩
theorem box_from {β : Type} {B D : Nat} (t : TypeId) (u : β → Value) : OwnFrom D (fun s W => Boxed W B t (u s)) := fun s X Y row hv hg hr => hv.kept hg (fun e' => by
  obtain ⟨_, o, ho, hc⟩ := hr B e'.symm
  rw [show X.heap[B]? = _ from hv] at ho; cases ho; cases hc)
theorem Boxed.keeps {S : Nat → Prop} {A W : World} {B : Nat} {t : TypeId} {u : Value} (h : Boxed A B t u) (hk : KeepsS S A W) (hS : S B) : Boxed W B t u := (hk.2 B hS).trans h
theorem rowT_from (b : List Int) (D : Nat) : ∀ (pre : List RowAt) (x : RowAt) (m : Nat), OwnFrom D (fun (_ : Unit) W => RowT b pre x m W) := by
  rintro pre ⟨x1, xv, xl⟩ m s X Y row ⟨h1, h2, h3⟩ hg hr
  refine ⟨h1, h2, ?_⟩
  have ho := Kd.own_of_R h3
  refine Kd.R_of_own (ho.kept hg ?_) (fun _ _ => trivial)
  rcases ho.2 with ⟨e, _⟩ | ⟨g, cap, cur, e, _, hgb, _⟩
  · exact .inl (by rw [show xv = _ from e]; rfl)
  · refine .inr fun e' => ?_
    obtain ⟨_, o, ho', hc⟩ := hr g (by rw [← e', show xv = _ from e]; rfl)
    rw [hgb] at ho'; cases ho'; cases hc

end Go.Proofs.YtockdfnnhkhlkaaGreatDoor.G
