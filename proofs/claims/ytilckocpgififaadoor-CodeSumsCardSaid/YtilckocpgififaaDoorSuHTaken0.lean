/- The digest by the document's way is the digest by the code's way, in plain Lean. -/
import Derived.Test.YtilckocpgififaaDoorSuRBlock
import Derived.Test.YtilckocpgififaaDoorSuBSumC
import Derived.Laws.BitsAllLaws
import Derived.Lib.EndianBits
import Derived.Test.YtilckocpgififaaDoorSuBMix
import Derived.Test.YtilckocpgififaaDoorSuBArr
import Derived.Test.YtilckocpgififaaDoorSuHSeq
import Derived.Test.YtilckocpgififaaDoorSuGx3
import Derived.Test.YtilckocpgififaaDoorSuGx4
import Derived.Test.YtilckocpgififaaDoorSuHClone
import Derived.Laws.BitsLemmas
import Derived.IntWalk
import Derived.Test.YtilckocpgififaaDoorSuHSameCall
import Derived.OneCell
import Derived.Laws.Tables
import Derived.Deep.MidRow
namespace Go.Proofs.YtilckocpgififaaDoor.G
open Go.RowKit Go.Proofs.YtilckocpgififaaDoorW.PrintWords Go.Proofs.YtilckocpgififaaDoorW.PrintLast Go.Proofs.YtilckocpgififaaDoorW.PrintMore
set_option linter.unusedVariables false
set_option linter.unusedSimpArgs false

/-! ### bits -/
theorem wr_mod (x : Int) : wr x = x % 18446744073709551616 := IntKind.wrap_u64 x
theorem xor_bv (a b : Int) : Go.bits .xor .u64 a b = ((BitVec.ofInt 64 a ^^^ BitVec.ofInt 64 b).toNat : Int) := by
  show IntKind.u64.wrap ((BitVec.ofInt 64 a ^^^ BitVec.ofInt 64 b).toNat : Int) = _
  have := (BitVec.ofInt 64 a ^^^ BitVec.ofInt 64 b).isLt
  rw [IntKind.wrap_u64]; omega
theorem or_bv (a b : Int) : Go.bits .or .u64 a b = ((BitVec.ofInt 64 a ||| BitVec.ofInt 64 b).toNat : Int) := by
  show IntKind.u64.wrap ((BitVec.ofInt 64 a ||| BitVec.ofInt 64 b).toNat : Int) = _
  have := (BitVec.ofInt 64 a ||| BitVec.ofInt 64 b).isLt
  rw [IntKind.wrap_u64]; omega
theorem ofInt_toNat (v : BitVec 64) : BitVec.ofInt 64 ((v.toNat : Nat) : Int) = v := by
  rw [BitVec.ofInt_natCast]; exact BitVec.ofNat_toNat 64 v |>.trans (by simp)
theorem xor_assoc64 (a b c : Int) : Go.bits .xor .u64 a (Go.bits .xor .u64 b c) = Go.bits .xor .u64 (Go.bits .xor .u64 a b) c := by
  rw [xor_bv b c, xor_bv a b, xor_bv, xor_bv, ofInt_toNat, ofInt_toNat, BitVec.xor_assoc]
theorem or_comm64 (a b : Int) : Go.bits .or .u64 a b = Go.bits .or .u64 b a := by
  rw [or_bv, or_bv, BitVec.or_comm]
theorem rot_same (n x : Int) : rotP n x = rotR n x := or_comm64 _ _
theorem sum_same (a b x : Int) : wr (a + wr (b + x)) = wr (wr (a + b) + x) := by
  simp only [wr_mod]; omega

/-! ### a round -/
theorem step_same (k : Nat) (V : List Int) (a b c d : Nat) (x y : Int) : blake_mixes.step k V a b c d x y = ref_mix.step k V a b c d x y := by
  unfold blake_mixes.step ref_mix.step
  split <;> simp only [rot_same, sum_same]
theorem mix_same (V : List Int) (a b c d : Nat) (x y : Int) : blake_mixes.f V a b c d x y = ref_mix.f V a b c d x y := by
  unfold blake_mixes.f ref_mix.f
  congr 1
  funext V k
  exact step_same k V a b c d x y
theorem stepA (M : List Int) (P : List Nat) (V : List Int) : rstep M P V 0 = halfA M P V 0 ∧ rstep M P V 1 = halfA M P V 1 ∧ rstep M P V 2 = halfA M P V 2 ∧ rstep M P V 3 = halfA M P V 3 := by
  refine ⟨?_, ?_, ?_, ?_⟩ <;> exact mix_same _ _ _ _ _ _ _
theorem stepB (M : List Int) (P : List Nat) (V : List Int) : rstep M P V 4 = halfB M P V 0 ∧ rstep M P V 5 = halfB M P V 1 ∧ rstep M P V 6 = halfB M P V 2 ∧ rstep M P V 7 = halfB M P V 3 := by
  refine ⟨?_, ?_, ?_, ?_⟩ <;> exact mix_same _ _ _ _ _ _ _
theorem round_same (M V : List Int) (P : List Nat) : roundL V M P = roundR M P V := by
  have r4 : List.range 4 = [0, 1, 2, 3] := rfl
  unfold roundL roundR runA runB
  rw [r4]
  simp only [List.foldl_cons, List.foldl_nil, (stepA M P _).1, (stepA M P _).2.1, (stepA M P _).2.2.1, (stepA M P _).2.2.2, (stepB M P _).1, (stepB M P _).2.1, (stepB M P _).2.2.1, (stepB M P _).2.2.2]
theorem rounds_same (M : List Int) : ∀ (l : List Nat) (V : List Int), roundsF M l V = roundsR M l V
  | [], _ => rfl
  | i :: l, V => by rw [roundsF, roundsR, round_same, rounds_same M l]

/-! ### the words of a block -/
/-- So many bytes as a number, the lowest first. -/
def lowF (f : Nat → Int) : Nat → Int
  | 0 => 0
  | j + 1 => lowF f j + f j * 256 ^ j
theorem lowF_range (f : Nat → Int) (hf : ∀ i, 0 ≤ f i ∧ f i < 256) : ∀ j, 0 ≤ lowF f j ∧ lowF f j < 256 ^ j
  | 0 => by simp [lowF]
  | j + 1 => by
    have ih := lowF_range f hf j
    have hj := hf j
    have hp : (0 : Int) < 256 ^ j := Int.pow_pos (by decide)
    have h1 : 0 ≤ f j * 256 ^ j := Int.mul_nonneg hj.1 (Int.le_of_lt hp)
    have h2 : f j * 256 ^ j ≤ 255 * 256 ^ j := Int.mul_le_mul_of_nonneg_right (by omega) (Int.le_of_lt hp)
    rw [lowF, Int.pow_succ]
    constructor <;> omega
theorem lowF_succ (f : Nat → Int) : ∀ j, lowF f (j + 1) = f 0 + 256 * lowF (fun i => f (i + 1)) j
  | 0 => by simp [lowF]
  | j + 1 => by
    rw [lowF, lowF_succ f j, lowF, Int.pow_succ, Int.mul_add, Int.add_assoc]
    congr 1
    congr 1
    rw [← Int.mul_assoc, Int.mul_comm]
theorem lowF_congr (f g : Nat → Int) (j : Nat) (h : ∀ i, i < j → f i = g i) : lowF f j = lowF g j := by
  induction j with
  | zero => rfl
  | succ j ih => rw [lowF, lowF, ih (fun i hi => h i (by omega)), h j (by omega)]
theorem lowF_zero (f : Nat → Int) (a : Nat) (h : ∀ i, a ≤ i → f i = 0) : ∀ j, a ≤ j → lowF f j = lowF f a
  | 0, ha => by have : a = 0 := by omega
                rw [this]
  | j + 1, ha => by
    by_cases e : a = j + 1
    · rw [e]
    · rw [lowF, h j (by omega), lowF_zero f a h j (by omega)]; omega
theorem p8 : (2 : Int) ^ 8 = 256 := by decide
theorem pow256_le (j : Nat) (h : j ≤ 7) : (256 : Int) ^ j ≤ 72057594037927936 := by
  have : j = 0 ∨ j = 1 ∨ j = 2 ∨ j = 3 ∨ j = 4 ∨ j = 5 ∨ j = 6 ∨ j = 7 := by omega
  rcases this with h | h | h | h | h | h | h | h <;> subst h <;> decide
theorem or_low (x b : Int) (j : Nat) (hj : j ≤ 7) (hx : 0 ≤ x) (hx' : x < 256 ^ j) (hb : 0 ≤ b ∧ b < 256) : Go.bits .or .u64 x (shl .u64 b (8 * (j : Int))) = x + b * 256 ^ j := by
  have hp : (0 : Int) < 256 ^ j := Int.pow_pos (by decide)
  have h7 := pow256_le j hj
  have e1 : (2 : Int) ^ min (8 * (j : Int)).toNat IntKind.u64.bits = 256 ^ j := by
    have : min (8 * (j : Int)).toNat IntKind.u64.bits = 8 * j := by simp only [IntKind.bits]; omega
    rw [this, Int.pow_mul, p8]
  have h1 : 0 ≤ b * 256 ^ j := Int.mul_nonneg hb.1 (Int.le_of_lt hp)
  have h2 : b * 256 ^ j ≤ 255 * 256 ^ j := Int.mul_le_mul_of_nonneg_right (by omega) (Int.le_of_lt hp)
  have e2 : shl .u64 b (8 * (j : Int)) = b * 256 ^ j := by
    unfold shl
    rw [e1]
    exact u64_wrap_id _ h1 (by omega)
  rw [e2]
  refine bits_join_low .u64 64 (by decide) wraps_u64 (8 * j) x _ hx ?_ (by omega) h1 ?_ (by omega)
  · rw [Int.pow_mul, p8]; exact hx'
  · rw [Int.pow_mul, p8]; exact Int.mul_emod_left _ _
theorem or_high (x b : Int) (hx : 0 ≤ x) (hx' : x < 72057594037927936) (hb : 0 ≤ b ∧ b < 256) : Go.bits .or .u64 (shl .u64 x 8) b = b + 256 * x := by
  have e2 : shl .u64 x 8 = x * 256 := by
    unfold shl
    rw [show (2 : Int) ^ min (8 : Int).toNat IntKind.u64.bits = 256 by decide]
    exact u64_wrap_id _ (by omega) (by omega)
  rw [e2, or_comm64, u64_or8 b (x * 256) hb.1 hb.2 (by omega) (by omega) (by omega)]
  omega
/-- Byte i of word t of a block. -/
def byteAt (b : List Int) (t i : Nat) : Int := b.getD (8 * t + i) 0
theorem getD_bytes (b : List Int) (hb : ∀ c ∈ b, 0 ≤ c ∧ c < 256) (i : Nat) : 0 ≤ b.getD i 0 ∧ b.getD i 0 < 256 := by
  rw [List.getD_eq_getElem?_getD]
  cases h : b[i]? with
  | none => exact ⟨by decide, by decide⟩
  | some c => exact hb c (List.mem_of_getElem? h)
/-- The words behind so many bytes. -/
def wordsTo (b : List Int) (k : Nat) : List Int := (List.range 16).map fun t => lowF (byteAt b t) (min 8 (k - 8 * t))
theorem wordsTo_length (b : List Int) (k : Nat) : (wordsTo b k).length = 16 := by simp [wordsTo]
theorem wordsTo_get (b : List Int) (k t : Nat) (ht : t < 16) : (wordsTo b k).getD t 0 = lowF (byteAt b t) (min 8 (k - 8 * t)) := by
  unfold wordsTo
  rw [List.getD_eq_getElem?_getD, List.getElem?_map, List.getElem?_range ht]; rfl
theorem wordsTo_zero (b : List Int) : wordsTo b 0 = zero16 := by
  unfold wordsTo zero16
  refine List.ext_getElem? fun t => ?_
  by_cases ht : t < 16
  · rw [List.getElem?_map, List.getElem?_range ht, List.getElem?_replicate, if_pos ht]
    simp only [Option.map_some, Nat.zero_sub, Nat.min_zero, lowF]
  · rw [List.getElem?_eq_none (by simp; omega), List.getElem?_eq_none (by simp; omega)]
theorem wordsTo_or (b : List Int) (hb : ∀ c ∈ b, 0 ≤ c ∧ c < 256) (k : Nat) (hk : k < 128) : orAt (wordsTo b k) k (b.getD k 0) = wordsTo b (k + 1) := by
  have hq : k / 8 < 16 := by omega
  unfold orAt
  rw [wordsTo_get b k _ hq]
  have hm : min 8 (k - 8 * (k / 8)) = k % 8 := by omega
  have hm1 : min 8 (k + 1 - 8 * (k / 8)) = k % 8 + 1 := by omega
  have hr := lowF_range (byteAt b (k / 8)) (fun i => getD_bytes b hb _) (k % 8)
  rw [hm, or_low _ _ _ (by omega) hr.1 hr.2 (getD_bytes b hb k)]
  refine List.ext_getElem? fun t => ?_
  by_cases ht : t < 16
  · rw [List.getElem?_set]
    rw [wordsTo_length]
    by_cases e : k / 8 = t
    · subst e
      rw [if_pos rfl, if_pos ht]
      unfold wordsTo
      rw [List.getElem?_map, List.getElem?_range ht]
      simp only [Option.map_some, Option.some.injEq]
      rw [hm1, lowF]
      congr 1
      unfold byteAt
      rw [show 8 * (k / 8) + k % 8 = k by omega]
    · rw [if_neg e]
      unfold wordsTo
      rw [List.getElem?_map, List.getElem?_map, List.getElem?_range ht]
      simp only [Option.map_some, Option.some.injEq]
      congr 1
      omega
  · rw [List.getElem?_eq_none (by rw [List.length_set, wordsTo_length]; omega), List.getElem?_eq_none (by rw [wordsTo_length]; omega)]
theorem wordsF_to (b : List Int) (hb : ∀ c ∈ b, 0 ≤ c ∧ c < 256) (hl : b.length ≤ 128) : ∀ (l : List Int) (k : Nat), b.drop k = l → wordsF l k (wordsTo b k) = wordsTo b (k + l.length)
  | [], k, _ => rfl
  | c :: l, k, h => by
    have hk : k < b.length := by
      have := congrArg List.length h
      rw [List.length_drop, List.length_cons] at this; omega
    have hc : b.getD k 0 = c := by
      have e := List.getElem_cons_drop hk
      rw [h] at e
      rw [List.getD_eq_getElem?_getD, List.getElem?_eq_getElem hk]
      exact (List.cons.inj e).1
    have hd : b.drop (k + 1) = l := by rw [← List.tail_drop, h]; rfl
    rw [wordsF, ← hc, wordsTo_or b hb k (by omega), wordsF_to b hb hl l (k + 1) hd, List.length_cons]
    congr 1
    omega
theorem getD_pad (b : List Int) (n i : Nat) : (b ++ List.replicate n 0).getD i 0 = b.getD i 0 := by
  rw [List.getD_eq_getElem?_getD, List.getD_eq_getElem?_getD]
  by_cases h : i < b.length
  · rw [List.getElem?_append_left h]
  · rw [List.getElem?_append_right (by omega), List.getElem?_eq_none (l := b) (by omega), List.getElem?_replicate]
    split <;> rfl
theorem wordP_low (p : List Int) (hp : ∀ i, 0 ≤ p.getD i 0 ∧ p.getD i 0 < 256) (t : Nat) : ∀ j, j ≤ 8 → wordP p t j = lowF (fun i => p.getD (8 * t + (8 - j + i)) 0) j
  | 0, _ => rfl
  | j + 1, h => by
    have ih := wordP_low p hp t j (by omega)
    have hr := lowF_range (fun i => p.getD (8 * t + (8 - j + i)) 0) (fun i => hp _) j
    rw [← ih] at hr
    have h7 := pow256_le j (by omega)
    rw [wordP, or_high _ _ hr.1 (by omega) (hp _), lowF_succ, ih]
    refine congr (congrArg _ ?_) (congrArg _ (lowF_congr _ _ _ fun i hi => ?_))
    · rw [show 8 - (j + 1) + 0 = 7 - j by omega]
    · rw [show 8 - (j + 1) + (i + 1) = 8 - j + i by omega]
theorem words_same (b : List Int) (hb : ∀ c ∈ b, 0 ≤ c ∧ c < 256) (hl : b.length ≤ 128) (n : Nat) : wordsL b = wordsR (b ++ List.replicate n 0) := by
  unfold wordsL
  have e := wordsF_to b hb hl b 0 rfl
  rw [wordsTo_zero, Nat.zero_add] at e
  rw [e]
  unfold wordsTo wordsR
  refine List.map_congr_left fun t ht => ?_
  have ht := List.mem_range.1 ht
  rw [wordP_low _ (fun i => by rw [getD_pad]; exact getD_bytes b hb i) t 8 (by omega)]
  have hf : (fun i => (b ++ List.replicate n 0).getD (8 * t + (8 - 8 + i)) 0) = byteAt b t := funext fun i => by
    rw [getD_pad]; unfold byteAt; rw [show 8 - 8 + i = i by omega]
  rw [hf]
  by_cases h8 : b.length - 8 * t < 8
  · refine (lowF_zero _ _ (fun i hi => ?_) 8 (by omega)).symm
    unfold byteAt
    rw [List.getD_eq_getElem?_getD, List.getElem?_eq_none (by omega)]; rfl
  · rw [show min 8 (b.length - 8 * t) = 8 by omega]

/-! ### a block -/
theorem getD_left (H R : List Int) (i : Nat) (h : i < H.length) : (H ++ R).getD i 0 = H.getD i 0 := by
  rw [List.getD_eq_getElem?_getD, List.getD_eq_getElem?_getD, List.getElem?_append_left h]
theorem out_same (V : List Int) (c : Int) : ∀ (l : List Nat) (H : List Int), (∀ i ∈ l, i < H.length) → outF V l (H ++ [c]) = outR V l H ++ [c]
  | [], _, _ => rfl
  | i :: l, H, h => by
    have hi := h i List.mem_cons_self
    rw [outF, outR, getD_left _ _ _ hi, List.set_append_left _ _ hi, xor_assoc64]
    exact out_same V c l _ (fun j hj => by rw [List.length_set]; exact h j (List.mem_cons_of_mem _ hj))
theorem block_same (H b : List Int) (at_ : Nat) (last : Bool) (n : Nat) (hH : H.length = 8) (hb : ∀ c ∈ b, 0 ≤ c ∧ c < 256) (hl : b.length ≤ 128) :
    blockL (H ++ [wr (at_ : Int)]) b last = blockR H (b ++ List.replicate n 0) ((at_ + b.length : Nat) : Int) last ++ [wr ((at_ + b.length : Nat) : Int)] := by
  have hc : countL (H ++ [wr (at_ : Int)]) b.length = wr ((at_ + b.length : Nat) : Int) := by
    unfold countL
    rw [List.getD_eq_getElem?_getD, List.getElem?_append_right (by omega), hH]
    show wr (wr (at_ : Int) + wr (b.length : Int)) = _
    simp only [wr_mod]; omega
  unfold blockL blockR
  rw [hc, List.set_append_right _ _ (by omega), hH]
  show outF _ _ (H ++ [wr ((at_ + b.length : Nat) : Int)]) = _
  rw [out_same _ _ _ _ (fun i hi => by have := List.mem_range.1 hi; omega), rounds_same, words_same b hb hl n]
  have hv : vInit (H ++ [wr (at_ : Int)]) (wr ((at_ + b.length : Nat) : Int)) last = vInitR H (wr ((at_ + b.length : Nat) : Int)) last := by
    unfold vInit vInitR
    rw [List.take_append_of_le_length (by omega), List.take_of_length_le (by omega)]
  rw [hv]

/-! ### the digest -/
/-- The reference's blocks: what is left, how many bytes were hashed, the words. -/
def blocksR : Nat → List Int → Nat → List Int → List Int
  | 0, r, at_, H => blockR H (r ++ List.replicate (128 - r.length) 0) ((at_ + r.length : Nat) : Int) true
  | n + 1, r, at_, H => if 128 < r.length then blocksR n (r.drop 128) (at_ + 128) (blockR H (r.take 128) ((at_ + 128 : Nat) : Int) false)
      else blockR H (r ++ List.replicate (128 - r.length) 0) ((at_ + r.length : Nat) : Int) true
theorem blocksR_length : ∀ (n : Nat) (r : List Int) (at_ : Nat) (H : List Int), (blocksR n r at_ H).length = H.length
  | 0, _, _, _ => blockR_length _ _ _ _
  | n + 1, r, at_, H => by
    rw [blocksR]
    split
    · rw [blocksR_length n, blockR_length]
    · exact blockR_length _ _ _ _
def beginR (n : Nat) : List Int := beginV.set 0 (Go.bits .xor .u64 (Go.bits .xor .u64 (beginV.getD 0 0) 16842784) (shl .u64 (wr (n : Int)) 8))
/-- The digest, by the reference. -/
def keyedR (key p : List Int) : List Int := digestL (blocksR (keyBlock (key.take 64) ++ p).length (keyBlock (key.take 64) ++ p) 0 (beginR (key.take 64).length))
theorem blocks_same : ∀ (n : Nat) (r : List Int) (at_ : Nat) (H : List Int), r.length ≤ n → (∀ c ∈ r, 0 ≤ c ∧ c < 256) → H.length = 8 → ∃ c, blocksF n r (H ++ [wr (at_ : Int)]) = blocksR n r at_ H ++ [c]
  | 0, r, at_, H, hn, hb, hH => ⟨_, block_same H r at_ true (128 - r.length) hH hb (by omega)⟩
  | n + 1, r, at_, H, hn, hb, hH => by
    rw [blocksF, blocksR]
    by_cases h : 128 < r.length
    · rw [if_pos h, if_pos h]
      have ht : (r.take 128).length = 128 := by rw [List.length_take]; omega
      have e := block_same H (r.take 128) at_ false 0 hH (fun c hc => hb c (List.mem_of_mem_take hc)) (by omega)
      rw [ht, List.replicate_zero, List.append_nil] at e
      rw [e]
      exact blocks_same n (r.drop 128) (at_ + 128) _ (by rw [List.length_drop]; omega) (fun c hc => hb c (List.mem_of_mem_drop hc)) ((blockR_length _ _ _ _).trans hH)
    · rw [if_neg h, if_neg h]
      exact ⟨_, block_same H r at_ true (128 - r.length) hH hb (by omega)⟩
theorem digest_left (H : List Int) (c : Int) (hH : H.length = 8) : digestL (H ++ [c]) = digestL H := by
  unfold digestL
  refine List.map_congr_left fun i hi => ?_
  have := List.mem_range.1 hi
  unfold outB
  rw [getD_left _ _ _ (by omega)]
theorem beginR_length (n : Nat) : (beginR n).length = 8 := by unfold beginR; rw [List.length_set]; rfl
theorem keyState_is (n : Nat) : keyState n = beginR n ++ [wr ((0 : Nat) : Int)] := by
  unfold keyState beginR mark
  rw [List.set_append_left _ _ (by decide), xor_assoc64]
  rfl
/-- The reference's digest is the code's. -/
theorem keyed_same (key p : List Int) (hk : ∀ c ∈ key, 0 ≤ c ∧ c < 256) (hp : ∀ c ∈ p, 0 ≤ c ∧ c < 256) : keyedR key p = keyedL key p := by
  unfold keyedR keyedL
  rw [keyState_is]
  obtain ⟨c, hc⟩ := blocks_same (keyBlock (key.take 64) ++ p).length (keyBlock (key.take 64) ++ p) 0 (beginR (key.take 64).length) (Nat.le_refl _) (fun c hc => by
    rcases List.mem_append.1 hc with h | h
    · exact keyBlock_bytes _ (fun c hc => hk c (List.mem_of_mem_take hc)) c h
    · exact hp c h) (beginR_length _)
  rw [hc, digest_left _ _ ((blocksR_length _ _ _ _).trans (beginR_length _))]
end Go.Proofs.YtilckocpgififaaDoor.G

/- the reference's Keyed: the digest of a row, with a key (laid by mkrkeyed.py) -/
namespace Go.Proofs.YtilckocpgififaaDoor.G
open Go.RowKit Go.Proofs.YtilckocpgififaaDoorW.PrintWords Go.Proofs.YtilckocpgififaaDoorW.PrintLast Go.Proofs.YtilckocpgififaaDoorW.PrintMore
set_option linter.unusedVariables false
set_option linter.unusedSimpArgs false

theorem store_run {P : Program} {o : Oper} {a : Act} {w : World} {ty : TypeId} {x y : Operand} {g : Nat} {L : List Value} (ho : o.op = .store ty x y) (hx : a.eval x = .pointer (some ⟨g, 0, none⟩)) (hy : a.eval y = .agg L.toArray)
    (ht : w.there g 0 L.length) (hi : (P.info? ty).map (·.size) = some L.length) (h1 : ∀ v ∈ L, v.oneCell' = true) :
    (execOp a.eval o).run P w = .ok .skip (w.setCells g 0 L) := by
  unfold execOp
  simp only [ho, hx, hy, Instr.storeAt, Instr.sureAddr, Sem.run_bind, Sem.run_pure, Result.andThen_ok, run_storeVar_mid w g 0 ty L.toArray (by rw [List.size_toArray]; exact ht) (by rw [List.size_toArray]; exact hi) (all_oneCell_toArray h1)]
section
variable {P : Program}
theorem run_append_none (w : World) (t ti ty e : TypeId) (i : TypeInfo) (ht : P.underlying t = some (.slice e)) (hti : P.underlying ti = some (.int .i64)) (hi : P.info? e = some i) (hby : i.bytes = 1) (A : Option Addr) (n c : Nat) (hc : n ≤ c) :
    (Builtin.append_ #[t, ti] ty #[.slice A n c, .int .i64 0]).run P w = .ok (.slice A n c) w := by
  have hw : IntKind.i64.wrap 0 = 0 := by decide +kernel
  cases A <;> simp [Builtin.append_, run_underlying ht, run_underlying hti, sizeOf, typeInfo, zeroValue, hi, hby, asInt, asIntOf, hw, hc, storeCells]
/-- Behind a row of one's own: m zeros, maybe none. -/
theorem zeros_any {ops : Array Oper} {rest : List Oper} {o : Oper} {a : Act} {Q : Exit → Act → World → Prop} {w0 W : World} (base : Nat) (hgd : o.guard = none) (s x : Operand) (t ti e : TypeId)
    (ho : o.op = .call { callee := .builtin .append, args := #[s, x], argTypes := #[t, ti] }) (ht : P.underlying t = some (.slice e)) (hti : P.underlying ti = some (.int .i64))
    (hinfo : (P.info? e).map (fun i => (i.zero, i.size, i.bytes)) = some (some (.int .u8 0), 1, 1)) (A : Option Addr) (c : Nat) (xs : List Int) (m : Nat) (mi : Int) (hmi : mi = (m : Int)) (hc : xs.length ≤ c) (hs : a.eval s = .slice A xs.length c) (hx : a.eval x = .int .i64 mi)
    (HO : Kd.R (Kd.int .u8) e W base (fun _ => True) (.slice A xs.length c) xs) (HB : Below base w0 W) (hbase : base ≤ W.heap.size) (hl : xs.length + m ≤ 1000000000)
    (h : ∀ v1 w1, Kd.R (Kd.int .u8) e w1 base (fun _ => True) v1 (xs ++ List.replicate m 0) → Below base w0 w1 → wpList P ops Q rest (a.put o.dst v1) w1) : wpList P ops Q (o :: rest) a W := by
  by_cases h0 : m = 0
  · subst h0
    subst hmi
    obtain ⟨i, hi, hzz⟩ := Option.map_eq_some_iff.1 hinfo
    simp only [Prod.mk.injEq] at hzz
    obtain ⟨hz, hsz, hby⟩ := hzz
    have hr := run_append_none (P := P) W t ti o.type e i ht hti hi hby A xs.length c hc
    refine wpList_plain hgd fun K hK => ?_
    unfold Oper.wp execOp
    simp only [ho, resolve, invoke, builtin, Sem.run_bind, Sem.run_pure, Result.andThen_ok, List.map_toArray, List.map_cons, List.map_nil, hs, hx]
    rw [show ((0 : Nat) : Int) = 0 from rfl, hr]
    refine hK _ _ (h _ _ ?_ HB)
    simpa using HO
  · exact zeros_event base hgd s x t ti e ho ht hti hinfo _ xs m mi hmi (by omega) hs hx HO HB hbase hl h
end
theorem blocksR_more : ∀ (n m : Nat) (r : List Int) (at_ : Nat) (H : List Int), r.length ≤ n → n ≤ m → blocksR m r at_ H = blocksR n r at_ H
  | 0, m, r, at_, H, h, _ => by
    have : ¬ 128 < r.length := by omega
    cases m with
    | zero => rfl
    | succ m => simp only [blocksR, if_neg this]
  | n + 1, m, r, at_, H, h, hm => by
    obtain ⟨m, rfl⟩ : ∃ k, m = k + 1 := ⟨m - 1, by omega⟩
    rw [blocksR, blocksR]
    by_cases c : 128 < r.length
    · rw [if_pos c, if_pos c]
      exact blocksR_more n m _ _ _ (by rw [List.length_drop]; omega) (by omega)
    · rw [if_neg c, if_neg c]
theorem blocksR_step (r H : List Int) (at_ : Nat) (h : 128 < r.length) : blocksR r.length r at_ H = blocksR (r.drop 128).length (r.drop 128) (at_ + 128) (blockR H (r.take 128) ((at_ + 128 : Nat) : Int) false) := by
  obtain ⟨n, hn⟩ : ∃ n, r.length = n + 1 := ⟨r.length - 1, by omega⟩
  rw [hn, blocksR, if_pos h]
  exact blocksR_more _ _ _ _ _ (Nat.le_refl _) (by rw [List.length_drop]; omega)
theorem blocksR_end (r H : List Int) (at_ : Nat) (h : ¬ 128 < r.length) : blocksR r.length r at_ H = blockR H (r ++ List.replicate (128 - r.length) 0) ((at_ + r.length : Nat) : Int) true := by
  cases hn : r.length with
  | zero => rw [blocksR, hn]
  | succ n => rw [blocksR, if_neg h, hn]
def ref_keyed_r10.T : Bool × List (List Nat × List Nat) := (true, [([], []), ([], []), ([], []), ([], []), ([3], [3]), ([1, 2, 4], [1, 2, 4]), ([], []), ([6], [6]), ([0, 5, 7], [0, 5, 7]), ([8, 8, 0, 1, 2, 3, 4, 5, 6, 7, 8], [8])])
def ref_keyed_r10.B : List Nat := [0, 0, 0, 0, 8, 30, 0, 64, 255, 511]
theorem ref_keyed_r10.tab : rtab .any (opsOf Tryd.f20 10) = ref_keyed_r10.T := by kernel_rfl
theorem ref_keyed_r10.bits : waitsOk ref_keyed_r10.T.2 ref_keyed_r10.B = true := by kernel_rfl
def ref_keyed_r10.l0 : Array Bool := bl 10 1
def ref_keyed_r10.l1 : Array Bool := bl 10 3
def ref_keyed_r10.l2 : Array Bool := bl 10 7
def ref_keyed_r10.l3 : Array Bool := bl 10 15
def ref_keyed_r10.l4 : Array Bool := bl 10 31
def ref_keyed_r10.l5 : Array Bool := bl 10 63
def ref_keyed_r10.l6 : Array Bool := bl 10 127
def ref_keyed_r10.l7 : Array Bool := bl 10 255
def ref_keyed_r10.l8 : Array Bool := bl 10 511
def ref_keyed_r10.l9 : Array Bool := bl 10 1023
set_option maxRecDepth 100000 in
set_option maxHeartbeats 16000000 in
theorem ref_Keyed.calls (A B : Option Addr) (ca cb : Nat) (key p : List Int) (w : World) (hK : Kd.C (Kd.int .u8) w A key.length key) (hka : key.length ≤ ca) (hP : Kd.C (Kd.int .u8) w B p.length p) (hpb : p.length ≤ cb)
    (hk1 : key.length ≤ 10000000) (hp1 : p.length ≤ 10000000) (hkb : ∀ c ∈ key, 0 ≤ c ∧ c < 256) (hpB : ∀ c ∈ p, 0 ≤ c ∧ c < 256) :
    Calls Tryd.prog 20 #[.slice A key.length ca, .slice B p.length cb] w fun e w' => e = .returned (.agg ((keyedL key p).map (Value.int .u8)).toArray) ∧ Below w.heap.size w w' := by
  obtain ⟨Z, hZ⟩ : ∃ Z, Z = zero32.map (Value.int .u8) := ⟨_, rfl⟩
  have hZl : Z.length = 32 := by rw [hZ]; rfl
  obtain ⟨Z8, hZ8⟩ : ∃ Z, Z = (List.replicate 8 (0 : Int)).map (Value.int .u64) := ⟨_, rfl⟩
  have hZ8l : Z8.length = 8 := by rw [hZ8]; rfl
  have HAL : Aside0 (∀ w, (zeroValue 31).run Tryd.prog w = .ok (.agg Z.toArray) w) := ⟨fun w => by rw [hZ]; exact zero_run info_a32 w⟩
  have HAL8 : Aside0 (∀ w, (zeroValue 62).run Tryd.prog w = .ok (.agg Z8.toArray) w) := ⟨fun w => by rw [hZ8]; exact zero_run info_a8 w⟩
  obtain ⟨k, hk⟩ : ∃ k, k = key.take 64 := ⟨_, rfl⟩
  obtain ⟨m, hmin⟩ : ∃ m : Int, min (64 : Int) (key.length : Int) = m := ⟨_, rfl⟩
  have hkl : k.length = min 64 key.length := by rw [hk, List.length_take]
  have hmt : m.toNat = k.length := by omega
  have hm0 : 0 ≤ m := by omega
  have hmc : m ≤ (ca : Int) := by omega
  have hkC : Kd.C (Kd.int .u8) w A k.length k := by
    by_cases h64 : 64 ≤ key.length
    · rw [hk]; exact Kd.C_take hK h64
    · rw [hk, List.take_of_length_le (by omega)]; exact hK
  have hk64 : k.length ≤ 64 := by omega
  have hkB : ∀ c ∈ k, 0 ≤ c ∧ c < 256 := by rw [hk]; exact fun c hc => hkb c (List.mem_of_mem_take hc)
  obtain ⟨L8, hL8⟩ : ∃ L, L = beginV.map (Value.int .u64) := ⟨_, rfl⟩
  have hL8l : L8.length = 8 := by rw [hL8]; rfl
  have hL8o : ∀ v ∈ L8, v.oneCell' = true := by rw [hL8]; exact one_of_map _
  have HBE : Aside0 (∀ w, Calls Tryd.prog 31 #[] w fun e w' => e = .returned (.agg L8.toArray) ∧ Below w.heap.size w w') := ⟨fun w => by rw [hL8]; exact ref_begin.calls w⟩
  have HBH : Aside0 (∀ w, (Instr.build 31 #[]).run Tryd.prog w = .ok (.agg Z.toArray) w) := ⟨fun w => by rw [hZ]; exact run_build w _ _ _ built_hash⟩
  have HL8 := Aside0.mk hL8
  have HL8l := Aside0.mk hL8l
  have HL8o := Aside0.mk hL8o
  have HZ := Aside0.mk hZ
  have HZl := Aside0.mk hZl
  have HZ8l := Aside0.mk hZ8l
  have HKC := Aside0.mk hkC
  have HP := Aside0.mk hP
  have Hpb := Aside0.mk hpb
  have Hk := Aside0.mk hk
  have Hk64 := Aside0.mk hk64
  have HkB := Aside0.mk hkB
  have HpB := Aside0.mk hpB
  have Hp1 := Aside0.mk hp1
  have HKE : Aside0 (keyedL key p = digestL (blocksR (keyBlock k ++ p).length (keyBlock k ++ p) 0 (beginR k.length))) := ⟨by rw [← keyed_same key p hkb hpB, hk]; rfl⟩
  clear hZ hZl hZ8 hZ8l hK hP hk hkC hL8 hL8l hL8o hkB hkb hpB hp1 hkl hpb
  go_enter Tryd.func20, Tryd.ntmps20
  go_upto_region 1 with ((with_reducible refine gate_dst (N := 4) rfl ?_); refine box_event ?hg (N := 4) ?hd (cs := Z.toArray) (t := 31) ?hr ?_; (case hd => rfl); (case hg => rfl); (case hr => first | (simp [execOp, Instr.alloc, HAL.out, newVar, newRow, go_sem]; done) | (simp [execOp, Instr.alloc, HAL.out, newVar, newRow, go_sem]; rfl)); intro g4 hg_ w1 hbox_ hb_; have G4 := Aside0.mk hg_; have T4 := Aside0.mk (there_box hbox_); have B1 := Aside0.mk hb_; have LT4 := Aside0.mk (blk_lt hbox_); clear hg_ hbox_ hb_)
  go_upto_region 3 with (fail)
  have HK1 := Aside0.mk (Kd.C_below HKC.out B1.out)
  have HP1 := Aside0.mk (Kd.C_below HP.out B1.out)
  by_cases hk0 : k.length = 0
  all_goals (
    first
      | (
        have hk0_ : k.length = 0 := hk0
        have d0 : decide ((k.length : Int) > 0) = false := decide_eq_false (by omega)
        have HK0 := Aside0.mk hk0
        go_upto_region 5 with (fail)
        obtain ⟨w4, hw4⟩ : ∃ w4, w4 = w1 := ⟨_, rfl⟩
        rw [← hw4]
        obtain ⟨v5, hv5⟩ : ∃ v : Value, v = .slice none 0 0 := ⟨_, rfl⟩
        have HA5 : Aside0 (Kd.R (Kd.int .u8) 5 w4 w1.heap.size (fun _ => True) v5 (keyBlock k)) := ⟨by rw [hv5, hw4]; unfold keyBlock; rw [if_pos HK0.out]; exact R_nil _ _⟩
        have HB5 : Aside0 (Below w1.heap.size w1 w4) := ⟨by rw [hw4]; exact Below.refl _ _⟩
        simp only [← hv5]
        clear hw4 hv5 d0 hk0)
      | (
        have hk0_ : ¬ k.length = 0 := hk0
        have d0 : decide ((k.length : Int) > 0) = true := decide_eq_true (by omega)
        go_wp2_with ((with_reducible refine gate_builtin (b := .append) (xs := #[.tmp 20, .tmp 21]) rfl ?_); at_builtin; refine Aside0.out ?_)
        refine Aside0.mk ?_
        refine Kd.R_append_row (Value.int .u8) (0 : Int) (h1 := fun _ => rfl) (w0 := w1) w1.heap.size rfl (.tmp 20) (.tmp 21) 26 5 (.int .u8 0) 1 rfl Tryd.underlying26 info_u8z rfl (by decide) _ _ k A k.length ca (fun _ => True) rfl rfl (fun _ _ => trivial) (R_nil w1 w1.heap.size) HK1.out (Below.refl _ _) (Nat.le_refl _) (by have := Hk64.out; simp; omega) ?_
        intro v2 w2 hR_ hb_ _ _
        rw [List.nil_append] at hR_
        have HR2 := Aside0.mk hR_
        have B2 := Aside0.mk hb_
        clear hR_ hb_
        go_wp2_with ((with_reducible refine gate_builtin (b := .append) (xs := #[.tmp 22, .tmp 25]) rfl ?_); at_builtin; refine Aside0.out ?_)
        refine Aside0.mk ?_
        refine zeros_event (w0 := w1) w1.heap.size rfl (.tmp 22) (.tmp 25) 26 3 5 rfl Tryd.underlying26 Tryd.underlying3 info_u8z v2 k (128 - k.length) _ ?hmi (by have := Hk64.out; omega) rfl rfl HR2.out B2.out B2.out.size (by have := Hk64.out; omega) ?_
        case hmi => have := Hk64.out; first | omega | (unfold wrap64; omega) | (rw [show (128 : Int) - (k.length : Int) = ((128 - k.length : Nat) : Int) by omega]; first | rfl | (unfold wrap64; omega))
        intro v5 w4 hR_ hb_
        have HA5 : Aside0 (Kd.R (Kd.int .u8) 5 w4 w1.heap.size (fun _ => True) v5 (keyBlock k)) := ⟨by unfold keyBlock; rw [if_neg hk0]; exact hR_⟩
        have HB5 := Aside0.mk hb_
        clear hR_ hb_ d0 hk0 hk0_ HR2 B2
        go_upto_region 5 with (fail)))
  all_goals (
    obtain ⟨all, hall⟩ : ∃ a, a = keyBlock k ++ p := ⟨_, rfl⟩
    have hkbl : (keyBlock k).length ≤ 128 := by unfold keyBlock; have := Hk64.out; split <;> simp <;> omega
    have hallB : ∀ c ∈ all, 0 ≤ c ∧ c < 256 := by
      intro c hc
      rw [hall] at hc
      rcases List.mem_append.1 hc with h | h
      · exact keyBlock_bytes k HkB.out c h
      · exact HpB.out c h
    have halll : all.length ≤ 10000128 := by rw [hall, List.length_append]; have := Hp1.out; omega
    have Hall := Aside0.mk hall
    have HallB := Aside0.mk hallB
    have Halll := Aside0.mk halll
    have Hkbl := Aside0.mk hkbl
    have HP4 := Aside0.mk (Kd.C_below HP1.out HB5.out)
    clear hall hallB halll hkbl
    go_wp2_with ((with_reducible refine gate_builtin (b := .append) (xs := #[.tmp 27, .tmp 28]) rfl ?_); at_builtin; refine Aside0.out ?_)
    refine Aside0.mk ?_
    refine Kd.R_append_row (Value.int .u8) (0 : Int) (h1 := fun _ => rfl) (w0 := w1) w1.heap.size rfl (.tmp 27) (.tmp 28) 26 5 (.int .u8 0) 1 rfl Tryd.underlying26 info_u8z rfl (by decide) _ _ p B p.length cb (fun _ => True) rfl rfl (fun _ _ => trivial) HA5.out HP4.out HB5.out HB5.out.size (by have := Hp1.out; have := Hkbl.out; omega) ?_
    intro v7 w6 hR_ hb_ _ _
    rw [← Hall.out] at hR_
    obtain ⟨A7, c7, hv7_, hc7_, hC7_⟩ := Kd.R_reads hR_
    have h7lt : ∀ ad, A7 = some ad → 0 < all.length → ad.block < w6.heap.size := fun ad e hn => by subst e; exact Kd.C_lt hC7_ hn (by decide)
    subst hv7_
    have HC7 := Aside0.mk hC7_
    have H7lt := Aside0.mk h7lt
    have B16 := Aside0.mk hb_
    have hcc7 := hc7_
    clear hR_ hb_ hC7_ h7lt hc7_ HA5 HB5
    go_upto_region 7 with (first
      | (go_at_call 31; with_reducible refine (HBE.out _).mono ?_; rintro e w7a ⟨rfl, hb_⟩; have B7a := Aside0.mk hb_; clear hb_)
      | ((with_reducible refine gate_dst (N := 7) rfl ?_); refine box_event ?hg (N := 7) ?hd (cs := Z8.toArray) (t := 62) ?hr ?_; (case hd => rfl); (case hg => rfl); (case hr => first | (simp [execOp, Instr.alloc, HAL8.out, newVar, newRow, go_sem]; done) | (simp [execOp, Instr.alloc, HAL8.out, newVar, newRow, go_sem]; rfl)); intro g7 hg_ w7 hbox_ hb_; have G7 := Aside0.mk hg_; have T7 := Aside0.mk (there_box hbox_); have B7 := Aside0.mk hb_; have LT7 := Aside0.mk (blk_lt hbox_); clear hg_ hbox_ hb_)
      | ((with_reducible refine gate_store (t := 62) (p := 7) rfl ?_); refine wpList_store_mid rfl 62 _ _ rfl g7 0 L8.toArray rfl rfl (by rw [List.size_toArray, HL8l.out, ← HZ8l.out]; exact T7.out) (by rw [List.size_toArray, HL8l.out]; exact size_of info_a8) (all_oneCell_toArray HL8o.out) ?_))
    have B67 := below_step B7a.out B7.out
    have g76 : w6.heap.size ≤ g7 := by have := G7.out; have := B7a.out.size; omega
    have n0_ := World.rangeAt_setCells_same w7 g7 0 L8 (by rw [HL8l.out, ← HZ8l.out]; exact T7.out)
    have n1_ := below_setCells g7 g76 L8 0 w7 B67
    have n2_ := World.there_setCells T7.out g7 0 L8
    generalize World.setCells _ _ _ _ = w8 at n0_ n1_ n2_ ⊢
    rw [HZ8l.out] at n2_
    rw [HL8.out] at n0_
    have aS : Arr w8 g7 beginV := ⟨n0_, n2_⟩
    obtain ⟨v_p, hv_p⟩ : ∃ v, v = beginV.getD 0 0 := ⟨_, rfl⟩
    have s0 := aS.cell 0 (by decide)
    have s1 := aS.frozen 0 (by decide)
    rw [← hv_p] at s0
    obtain ⟨sv, hsv⟩ : ∃ v, shl .u64 (wr (k.length : Int)) 8 = v := ⟨_, rfl⟩
    have hsv1 : IntKind.u64.wrap (IntKind.u64.wrap (k.length : Int) * 2 ^ 8) = sv := hsv
    have hsv2 : IntKind.u64.wrap (IntKind.u64.wrap (k.length : Int) * 256) = sv := hsv
    first
      | (have hsv3 : IntKind.u64.wrap (IntKind.u64.wrap 0 * 256) = sv := by
          rw [← hsv2, HK0.out]; rfl)
      | skip
    have Hv_p := Aside0.mk hv_p
    have Hsv := Aside0.mk hsv
    have AS := Aside0.mk aS
    have B18 := Aside0.mk (below_step B16.out n1_)
    have HC8 := Aside0.mk (Kd.C_below HC7.out n1_)
    have HF8 : Aside0 (∀ ad, A7 = some ad → 0 < all.length → ad.block ≠ g7) := ⟨fun ad e hn => by have := H7lt.out ad e hn; omega⟩
    have LT48 : Aside0 (g4 < w8.heap.size) := ⟨Nat.lt_of_lt_of_le LT4.out B18.out.size⟩
    have LT4c := Aside0.mk (there_of_below T4.out B18.out LT4.out)
    have NE4 : Aside0 (g4 ≠ g7) := ⟨by have := LT4.out; have := B16.out.size; omega⟩
    have G7n : Aside0 (w.heap.size ≤ g7) := ⟨by have := B1.out.size; have := B16.out.size; omega⟩
    clear n0_ n1_ n2_ aS B67 g76 hv_p hsv HC7 H7lt B16 B7a B7
    go_upto_region 8 with (fail)
    obtain ⟨x0, hx0_⟩ : ∃ x0, x0 = Go.bits .xor .u64 (Go.bits .xor .u64 v_p 16842784) sv := ⟨_, rfl⟩
    first
      | (rw [← hx0_])
      | (have hz_ : x0 = Go.bits .xor .u64 (Go.bits .xor .u64 v_p 16842784) 0 := by
          rw [hx0_, ← Hsv.out, HK0.out]; rfl
         rw [← hz_]
         clear hz_)
      | (have hz_ : x0 = Go.bits .xor .u64 (Go.bits .xor .u64 v_p 16842784) ((k.length : Int) * 256) := by
          have h64 := Hk64.out
          have hsk : (k.length : Int) * 256 = sv := by rw [← hsv2, IntKind.wrap_u64, IntKind.wrap_u64]; omega
          rw [hx0_, hsk]
         rw [← hz_]
         clear hz_)
    have n0_ := AS.out.set 0 (by decide) x0
    have n1_ := grown_set (World.grownBy.refl w8 (some g7)) 0 (.int .u64 x0)
    generalize World.setCell _ _ _ = w9 at n0_ n1_ ⊢
    obtain ⟨H0, hH0⟩ : ∃ H, H = beginR k.length := ⟨_, rfl⟩
    have e0 : beginV.set 0 x0 = H0 := by rw [hH0, hx0_, Hv_p.out, ← Hsv.out]; rfl
    rw [e0] at n0_
    have A9 := Aside0.mk n0_
    have HH0 := Aside0.mk hH0
    have H0l : Aside0 (H0.length = 8) := ⟨by rw [hH0]; exact beginR_length _⟩
    have HC9 := Aside0.mk (C_grown HC8.out n1_ HF8.out)
    have T9 := Aside0.mk (there_of_block LT4c.out (n1_.block g4 LT48.out (by have := NE4.out; simpa using this)))
    have B9 := Aside0.mk ((below_step B1.out B18.out).grown n1_ (below_step B1.out B18.out).size (fun j hj => by cases hj; exact G7n.out))
    have LT49 : Aside0 (g4 < w9.heap.size) := ⟨Nat.lt_of_lt_of_le LT48.out n1_.size⟩
    clear n0_ n1_ s0 s1 e0 hH0 hx0_ hsv1 hsv2 B18 HC8 LT48 LT4c
    go_wp2
    go_loopw [8] (fun i wr => ∃ x : Int, i = .int .i64 x ∧ (0 ≤ x ∧ x ≤ (all.length : Int)) ∧
        Aside0 (∃ H, H.length = 8 ∧ Arr wr g7 H ∧ blocksR (all.drop x.toNat).length (all.drop x.toNat) x.toNat H = blocksR all.length all 0 H0) ∧ Aside0 (w9.grownBy wr (some g7)))
      (fun i _ => all.length - (intOf i).toNat)
    case atStart => exact ⟨0, rfl, ⟨by omega, by omega⟩, ⟨H0, H0l.out, A9.out, rfl⟩, ⟨World.grownBy.refl _ _⟩⟩
    case round =>
      obtain ⟨x, rfl, ⟨hx0, hx1⟩, HV, HG⟩ := hrel
      obtain ⟨H, hHl, hHA, hHe⟩ := HV.out
      have hal := Halll.out
      obtain ⟨r, hr⟩ : ∃ r, r = all.drop x.toNat := ⟨_, rfl⟩
      rw [← hr] at hHe
      have hrl : r.length = all.length - x.toNat := by rw [hr, List.length_drop]
      obtain ⟨s, hs⟩ : ∃ s, wrap64 ((all.length : Int) - x) = s := ⟨_, rfl⟩
      have hs' : s = (all.length : Int) - x := by rw [← hs]; unfold wrap64; omega
      obtain ⟨i8, hi8, hsz8⟩ := info_u8s
      have hrC := C_grown HC9.out HG.out HF8.out
      by_cases hlt : s > 128
      · have d0 : decide (s > 128) = true := decide_eq_true hlt
        obtain ⟨y, hy⟩ : ∃ y, wrap64 (x + 128) = y := ⟨_, rfl⟩
        have hy' : y = x + 128 := by rw [← hy]; unfold wrap64; omega
        obtain ⟨A2, hA2⟩ : ∃ A2, A2 = if c7 = x.toNat then A7 else A7.map (·.add x.toNat) := ⟨_, rfl⟩
        obtain ⟨b, hb⟩ : ∃ b, b = (all.take y.toNat).drop x.toNat := ⟨_, rfl⟩
        have hbr : b = r.take 128 := by rw [hb, hr, List.drop_take]; congr 1; omega
        have hbl : b.length = 128 := by rw [hbr, List.length_take]; omega
        have hcut : ∀ W : World, (Instr.slice 26 (.slice A7 all.length c7) (some (.int .i64 x)) (some (.int .i64 y)) none).run Tryd.prog W = .ok (.slice A2 128 (c7 - x.toNat)) W := by
          have := cut_mid (P := Tryd.prog) 26 5 .i64 .i64 Tryd.underlying26 hi8 1 hsz8 A7 all.length c7 x y hx0 (by omega) (by omega) hcc7
          rw [show y.toNat - x.toNat = 128 by omega] at this
          rw [hA2]
          simpa using this
        have hC2 : Kd.C (Kd.int .u8) wr A2 b.length b := by
          have := Kd.C_mid (k := Kd.int .u8) (lo := x.toNat) (hi := y.toNat) hrC (by omega) (by omega) hcc7
          rw [hA2, hb]
          rw [show (Kd.int IntKind.u8).sz = 1 from rfl, Nat.mul_one] at this
          exact this
        obtain ⟨LH, hLH⟩ : ∃ L, L = H.map (Value.int .u64) := ⟨_, rfl⟩
        obtain ⟨HN, hHN⟩ : ∃ HN, HN = blockR H b y false := ⟨_, rfl⟩
        obtain ⟨LN, hLN⟩ : ∃ L, L = HN.map (Value.int .u64) := ⟨_, rfl⟩
        have hbk := ref_block.calls H b A2 (c7 - x.toNat) y false wr.drew hHl hbl (Kd.C_drew hC2) (fun c hc => HallB.out c (by rw [hb] at hc; exact List.mem_of_mem_take (List.mem_of_mem_drop hc)))
        rw [hbl, ← hHN, ← hLN, ← hLH, ← hy] at hbk
        have hcut' := hcut
        rw [← hy] at hcut'
        have HBK := Aside0.mk hbk
        have hHNl : HN.length = 8 := by rw [hHN, blockR_length, hHl]
        have hrl2 : (r.drop 128) = all.drop y.toNat := by rw [hr, List.drop_drop]; congr 1; omega
        have HE2 : Aside0 (blocksR (all.drop y.toNat).length (all.drop y.toNat) y.toNat HN = blocksR all.length all 0 H0) := ⟨by
          rw [← hHe, blocksR_step r H x.toNat (by omega), hrl2, hHN, hbr, show x.toNat + 128 = y.toNat by omega, Int.toNat_of_nonneg (by omega)]⟩
        have HLHl : Aside0 (LH.length = 8) := ⟨by rw [hLH, List.length_map, hHl]⟩
        have HI8 : Aside0 ((Tryd.prog.info? 62).map (·.size) = some LH.length) := ⟨by rw [HLHl.out]; exact size_of info_a8⟩
        have HLNl : Aside0 (LN.length = 8) := ⟨by rw [hLN, List.length_map, hHNl]⟩
        have HLNo : Aside0 (∀ v ∈ LN, v.oneCell' = true) := ⟨by rw [hLN]; exact one_of_map _⟩
        have hrg := hHA.range
        rw [← hLH] at hrg
        have HRG := Aside0.mk ((World.rangeAt_drew _ _ _ _).2 hrg)
        have HTH : Aside0 (wr.there g7 0 8) := ⟨by have := hHA.there; rwa [hHl] at this⟩
        have HLT7 : Aside0 (g7 < wr.heap.size) := ⟨hHA.lt (by omega)⟩
        have HLN := Aside0.mk hLN
        have HHNl := Aside0.mk hHNl
        have hyb : 0 ≤ y ∧ y ≤ (all.length : Int) ∧ all.length - y.toNat < all.length - x.toNat := by omega
        have HYB := Aside0.mk hyb
        clear hbk hC2 hrC hb hbr hbl hrl hrl2 hHN hLN hLH hHNl hHl hHA hHe HV hr hrg hi8 hsz8 hA2 hs' hy' hyb hal
        go_upto_region 10 with (fail)
        refine start_ (n := 10) (S := fun w' => w'.rangeAt g7 0 LH) (ds := [9]) #[false, false, false, false, false, false, false, false, false, false] (by kernel_rfl) rfl rfl HRG.out (fun hHeld => ?_)
        refine with_tabW ref_keyed_r10.tab ref_keyed_r10.bits (fun HT_ HW_ => ?_)
        refine tk HT_ HW_ hHeld 0 (some 45) ref_keyed_r10.l0 (hr := by intro w' hs_; have s0 := hs_; refine load_run (ty := 62) (y := .tmp 7) (g := g7) (L := LH) ?_ ?_ s0 Tryd.underlying62 rfl HI8.out <;> rfl) (h := ?_)
        refine pu HT_ 1 (some 46) ref_keyed_r10.l1 (h := ?_)
        refine pu HT_ 2 (some 47) ref_keyed_r10.l2 (h := ?_)
        refine pu HT_ 3 (some 48) ref_keyed_r10.l3 (h := ?_)
        refine pu HT_ 4 (some 49) ref_keyed_r10.l4 (h := ?_)
        refine pu HT_ 5 (some 50) ref_keyed_r10.l5 (h := ?_)
        refine pu HT_ 6 (some 51) ref_keyed_r10.l6 (h := ?_)
        refine pu HT_ 7 (some 52) ref_keyed_r10.l7 (h := ?_)
        refine one_ (i := 8) (N := some 53) ref_keyed_r10.l8 rfl rfl (one_of HT_.out (by kernel_rfl)) (by decide) (fun K hK => ?_)
        refine goes_ Tryd.func32 (by kernel_rfl) rfl #[.agg LH.toArray, .slice A2 128 (c7 - x.toNat), .int .i64 (wrap64 (x + 128)), .bool false] (by rfl) rfl rfl (by (try simp only [List.map_toArray, List.map_cons, List.map_nil]); first | done | rfl) ?_
        refine (HBK.out).mono ?_
        rintro e wn ⟨rfl, hb_⟩
        have HBN := Aside0.mk hb_
        have HTN : Aside0 (wn.there g7 0 8) := ⟨there_of_below (w := wr.drew) ((World.there_drew _ _ _ _).2 HTH.out) hb_ HLT7.out⟩
        clear hb_
        refine ⟨_, rfl, ?_⟩
        refine hK.out _ _ (rangeAt_below hHeld HBN.out HLT7.out) (fun hHeld => ?_)
        clear hK K
        refine norm_ (a' := ?_) ?_ ?_
        rotate_left
        · show Act.put _ (some 53) _ = _
          simp only [Act.put, List.setIfInBounds_toArray, List.set_cons_zero, List.set_cons_succ, i64_w, i32_w]
          rfl
        refine last_ (i := 9) (N := none) ref_keyed_r10.l9 rfl rfl (one_of HT_.out (by kernel_rfl)) (by decide) (fun K hK => ?_)
        clear hHeld
        refine skip_ (w1 := wn.setCells g7 0 LN) (by rfl) rfl ?_ ?_
        · exact store_run (x := .tmp 7) (y := .tmp 53) rfl rfl rfl (by rw [HLNl.out]; exact HTN.out) (by rw [HLNl.out]; exact size_of info_a8) HLNo.out
        refine hK.out _ _ ?_
        clear hK K
        refine done_ (done_of HT_.out (by kernel_rfl)) ?_
        clear HT_ HW_
        have n0_ := World.rangeAt_setCells_same wn g7 0 LN (by rw [HLNl.out]; exact HTN.out)
        have n1_ := grown_setCells (g := g7) 0 LN (grown_below (grown_drew HG.out) HBN.out)
        have n2_ := World.there_setCells HTN.out g7 0 LN
        generalize World.setCells _ _ _ _ = wq at n0_ n1_ n2_ ⊢
        rw [HLN.out] at n0_
        have HAQ : Aside0 (Arr wq g7 HN) := ⟨n0_, by rw [HHNl.out]; exact n2_⟩
        have HGQ := Aside0.mk n1_
        clear n0_ n1_ n2_
        go_wp2
        exact ⟨⟨y, by rw [hy], ⟨HYB.out.1, HYB.out.2.1⟩, ⟨HN, HHNl.out, HAQ.out, HE2.out⟩, HGQ⟩, by simp only [intOf]; rw [hy]; exact HYB.out.2.2⟩
      · have d0 : decide (s > 128) = false := decide_eq_false hlt
        obtain ⟨A2, hA2⟩ : ∃ A2, A2 = if c7 = x.toNat then A7 else A7.map (·.add x.toNat) := ⟨_, rfl⟩
        have hcut : ∀ W : World, (Instr.slice 26 (.slice A7 all.length c7) (some (.int .i64 x)) none none).run Tryd.prog W = .ok (.slice A2 r.length (c7 - x.toNat)) W := by
          have := cut_from (P := Tryd.prog) 26 5 .i64 Tryd.underlying26 hi8 1 hsz8 A7 all.length c7 x hx0 (by omega)
          rw [← hrl] at this
          rw [hA2]
          simpa using this
        have hC2 : Kd.C (Kd.int .u8) wr A2 r.length r := by
          have := Kd.C_drop (k := Kd.int .u8) (m := x.toNat) hrC (by omega) hcc7
          rw [hA2, hr]
          rw [show (Kd.int IntKind.u8).sz = 1 from rfl, Nat.mul_one] at this
          exact this
        obtain ⟨wA, hwA⟩ : ∃ wA, wA = wr := ⟨_, rfl⟩
        subst hwA
        have HC2 := Aside0.mk hC2
        obtain ⟨r1, hr1⟩ : ∃ r1, r1 = r ++ List.replicate (128 - r.length) 0 := ⟨_, rfl⟩
        have hr1l : r1.length = 128 := by rw [hr1, List.length_append, List.length_replicate]; omega
        have hr1B : ∀ c ∈ r1, 0 ≤ c ∧ c < 256 := fun c hc => by
          rw [hr1] at hc
          rcases List.mem_append.1 hc with h | h
          · exact HallB.out c (by rw [hr] at h; exact List.mem_of_mem_drop h)
          · rw [List.eq_of_mem_replicate h]; omega
        obtain ⟨HN, hHN⟩ : ∃ HN, HN = blockR H r1 (all.length : Int) true := ⟨_, rfl⟩
        have HE2 : Aside0 (HN = blocksR all.length all 0 H0) := ⟨by
          rw [← hHe, blocksR_end r H x.toNat (by omega), hHN, hr1, show x.toNat + r.length = all.length by omega]⟩
        obtain ⟨LH, hLH⟩ : ∃ L, L = H.map (Value.int .u64) := ⟨_, rfl⟩
        obtain ⟨LN, hLN⟩ : ∃ L, L = HN.map (Value.int .u64) := ⟨_, rfl⟩
        have HBK : Aside0 (∀ (W : World) (A1 : Option Addr) (c1 : Nat), Kd.C (Kd.int .u8) W A1 r1.length r1 → Calls Tryd.prog 32 #[.agg LH.toArray, .slice A1 r1.length c1, .int .i64 (all.length : Int), .bool true] W fun e w' => e = .returned (.agg LN.toArray) ∧ Below W.heap.size W w') :=
          ⟨fun W A1 c1 hC => by rw [hLH, hLN, hHN]; exact ref_block.calls H r1 A1 c1 (all.length : Int) true W hHl hr1l hC hr1B⟩
        have hHNl : HN.length = 8 := by rw [hHN, blockR_length, hHl]
        have HLHl : Aside0 (LH.length = 8) := ⟨by rw [hLH, List.length_map, hHl]⟩
        have HLNl : Aside0 (LN.length = 8) := ⟨by rw [hLN, List.length_map, hHNl]⟩
        have HLNo : Aside0 (∀ v ∈ LN, v.oneCell' = true) := ⟨by rw [hLN]; exact one_of_map _⟩
        have hrg := hHA.range
        rw [← hLH] at hrg
        have HRG := Aside0.mk hrg
        have HTH : Aside0 (wA.there g7 0 8) := ⟨by have := hHA.there; rwa [hHl] at this⟩
        have HLT7 : Aside0 (g7 < wA.heap.size) := ⟨hHA.lt (by omega)⟩
        have HLN := Aside0.mk hLN
        have HHNl := Aside0.mk hHNl
        have HR1 := Aside0.mk hr1
        have HRL : Aside0 (r.length ≤ 128) := ⟨by omega⟩
        have H9g := Aside0.mk (below_grown (Below.refl wA.heap.size wA) (some g7))
        clear hrC hr hHN hLN hLH hHNl hHl hHA hHe HV hrg hi8 hsz8 hA2 hs' hr1 hr1l hr1B hal hrl hC2 hlt
        go_wp2_with (first
          | ((with_reducible refine gate_dst (N := 56) rfl ?_); refine slice_event ?hg (N := 56) ?hd (cs := #[]) (t := 5) (n := 0) (c := 0) ?hr ?_; (case hd => rfl); (case hg => rfl); (case hr => first | (go_simp; done) | (go_simp; rfl)); intro g56 hg_ wB hbox_ hb_; have G56 := Aside0.mk hg_; have BX := Aside0.mk hbox_; have HBB := Aside0.mk hb_; clear hg_ hbox_ hb_)
          | ((with_reducible refine gate_builtin (b := .append) (xs := #[.tmp 56, .tmp 59]) rfl ?_); at_builtin; refine Aside0.out ?_))
        refine Aside0.mk ?_
        refine Kd.R_append_row (Value.int .u8) (0 : Int) (h1 := fun _ => rfl) (w0 := wA) wA.heap.size rfl (.tmp 56) (.tmp 59) 26 5 (.int .u8 0) 1 rfl Tryd.underlying26 info_u8z rfl (by decide) _ _ r A2 r.length _ (fun _ => True) rfl rfl (fun _ _ => trivial) (R_empty BX.out (by have := G56.out; omega)) (Kd.C_below HC2.out HBB.out) HBB.out HBB.out.size (by have := HRL.out; simp; omega) ?_
        intro vC wC hR_ hb_ _ _
        rw [List.nil_append] at hR_
        obtain ⟨AC, cC, hvC_, hcC_, hCC_⟩ := Kd.R_reads hR_
        subst hvC_
        have HRC := Aside0.mk hR_
        have HBC := Aside0.mk hb_
        have HcC := Aside0.mk hcC_
        clear hR_ hb_ hcC_ hCC_ BX HBB HC2
        go_wp2_with ((with_reducible refine gate_builtin (b := .append) (xs := #[.tmp 61, .tmp 64]) rfl ?_); at_builtin; refine Aside0.out ?_)
        refine Aside0.mk ?_
        refine zeros_any (w0 := wA) wA.heap.size rfl (.tmp 61) (.tmp 64) 26 3 5 rfl Tryd.underlying26 Tryd.underlying3 info_u8z AC cC r (128 - r.length) _ ?hmi HcC.out rfl rfl HRC.out HBC.out HBC.out.size (by have := HRL.out; omega) ?_
        case hmi => have := HRL.out; first | omega | (unfold wrap64; omega) | (rw [show (128 : Int) - (r.length : Int) = ((128 - r.length : Nat) : Int) by omega]; first | rfl | (unfold wrap64; omega))
        intro vD wD hR_ hb_
        rw [← HR1.out] at hR_
        obtain ⟨AD, cD, hvD_, hcD_, hCD_⟩ := Kd.R_reads hR_
        subst hvD_
        have HCD := Aside0.mk hCD_
        have HBD := Aside0.mk hb_
        have HRGD := Aside0.mk (rangeAt_below HRG.out hb_ HLT7.out)
        have HBK2 := Aside0.mk (HBK.out wD AD cD hCD_)
        clear hR_ hb_ hcD_ hCD_
        go_upto_region 15 with (first
          | ((with_reducible refine gate_dst (N := 66) rfl ?_); refine wpList_load_mid rfl 62 _ rfl g7 0 rfl LH _ HRGD.out Tryd.underlying62 rfl (by rw [HLHl.out]; exact size_of info_a8) ?_)
          | (go_at_call 32; with_reducible refine HBK2.out.mono ?_; rintro e w11 ⟨rfl, hb_⟩; have HB11 := Aside0.mk (below_step HBD.out hb_); have HTN := Aside0.mk (there_of_below HTH.out HB11.out HLT7.out); clear hb_)
          | ((with_reducible refine gate_store (t := 62) (p := 7) rfl ?_); refine wpList_store_mid rfl 62 _ _ rfl g7 0 LN.toArray rfl rfl (by rw [List.size_toArray, HLNl.out]; exact HTN.out) (by rw [List.size_toArray, HLNl.out]; exact size_of info_a8) (all_oneCell_toArray HLNo.out) ?_))
        have n0_ := World.rangeAt_setCells_same w11 g7 0 LN (by rw [HLNl.out]; exact HTN.out)
        have n1_ := grown_setCells (g := g7) 0 LN (grown_below HG.out HB11.out)
        have n2_ := World.there_setCells HTN.out g7 0 LN
        generalize World.setCells _ _ _ _ = w9z at n0_ n1_ n2_ ⊢
        rw [HLN.out] at n0_
        obtain ⟨HF, hHF⟩ : ∃ HF, HF = HN := ⟨_, rfl⟩
        have HA9 : Aside0 (Arr w9z g7 HF) := ⟨by rw [hHF]; exact n0_, by rw [hHF, HHNl.out]; exact n2_⟩
        have HHl2 : Aside0 (HF.length = 8) := ⟨by rw [hHF]; exact HHNl.out⟩
        have HE3 : Aside0 (HF = blocksR all.length all 0 H0) := ⟨by rw [hHF]; exact HE2.out⟩
        have HG9 := Aside0.mk n1_
        clear n0_ n1_ n2_ hHF HBK HBK2 HE2 HRGD HRG HTN HTH HB11 HBD HCD HBC HRC HG HR1
        go_upto_region 16 with (first
          | ((with_reducible refine gate_dst (N := 71) rfl ?_); refine Kd.event_run (v := .agg Z.toArray) (w1 := w9z) rfl (build_run0 rfl (HBH.out _)) ?_)
          | ((with_reducible refine gate_dst (N := 10) rfl ?_); refine box_event ?hg (N := 10) ?hd (cs := Z.toArray) (t := 31) ?hr ?_; (case hd => rfl); (case hg => rfl); (case hr => first | (simp [execOp, Instr.alloc, HAL.out, newVar, newRow, go_sem]; done) | (simp [execOp, Instr.alloc, HAL.out, newVar, newRow, go_sem]; rfl)); intro g10 hg_ w10 hbox_ hb_; have G10 := Aside0.mk hg_; have T10 := Aside0.mk (there_box hbox_); have B10 := Aside0.mk hb_; have LT10 := Aside0.mk (blk_lt hbox_); clear hg_ hbox_ hb_)
          | ((with_reducible refine gate_store (t := 31) (p := 10) rfl ?_); refine wpList_store_mid rfl 31 _ _ rfl g10 0 Z.toArray rfl rfl (by rw [List.size_toArray]; exact T10.out) (by rw [List.size_toArray, HZl.out]; exact size_of info_a32) (all_oneCell_toArray (by rw [HZ.out]; exact one_of_map _)) ?_))
        have n0_ := World.rangeAt_setCells_same w10 g10 0 Z T10.out
        have n1_ := below_setCells g10 (by have := G10.out; omega) Z 0 w10 B10.out
        have n2_ := World.there_setCells T10.out g10 0 Z
        generalize World.setCells _ _ _ _ = w11 at n0_ n1_ n2_ ⊢
        rw [HZl.out] at n2_
        have AB0 : ArrB w11 g10 (digestTo HF 0) := ⟨by rw [digestTo_zero, ← HZ.out]; exact n0_, by rw [digestTo_length]; exact n2_⟩
        have HAB0 := Aside0.mk AB0
        have A11 := Aside0.mk (HA9.out.below n1_ (HA9.out.lt (by rw [HHl2.out]; decide)))
        have lt49 : g4 < w9z.heap.size := Nat.lt_of_lt_of_le LT49.out HG9.out.size
        have t9 := there_of_block T9.out (HG9.out.block g4 LT49.out (by have := NE4.out; simpa using this))
        have T11 := Aside0.mk (there_of_below t9 n1_ lt49)
        have ne74 : g10 ≠ g4 := by have := G10.out; omega
        have ne7S : g10 ≠ g7 := by have := G10.out; have := HA9.out.lt (by rw [HHl2.out]; decide); omega
        have NE74 := Aside0.mk ne74
        have NE7S := Aside0.mk ne7S
        have LT411 : Aside0 (g4 < w11.heap.size) := ⟨Nat.lt_of_lt_of_le lt49 n1_.size⟩
        have B11 := Aside0.mk (below_step (B9.out.grown HG9.out B9.out.size (fun j hj => by cases hj; exact G7n.out)) n1_)
        have G10n : Aside0 (w.heap.size ≤ g10) := ⟨by have := G10.out; have := B9.out.size; have := HG9.out.size; omega⟩
        clear n0_ n1_ n2_ AB0 lt49 t9 ne74 ne7S
        go_wp2
        go_loopw [11] (fun i wr => ∃ x : Int, i = .int .i64 x ∧ (0 ≤ x ∧ x ≤ 32) ∧ Aside0 (ArrB wr g10 (digestTo HF x.toNat)) ∧ Aside0 (w11.grownBy wr (some g10)))
          (fun i _ => 32 - (intOf i).toNat)
        case atStart => exact ⟨0, rfl, ⟨by omega, by omega⟩, HAB0, ⟨World.grownBy.refl _ _⟩⟩
        case round =>
        obtain ⟨x, rfl, ⟨hx0, hx1⟩, HV, HG2⟩ := hrel
        by_cases hx : x < 32
        · have d1 : decide (x < 32) = true := decide_eq_true hx
          have xw : wrap64 (x + 1) = x + 1 := by unfold wrap64; omega
          obtain ⟨y, hy⟩ : ∃ y, x.tdiv 8 = y := ⟨_, rfl⟩
          obtain ⟨z, hz⟩ : ∃ z, x.tmod 8 = z := ⟨_, rfl⟩
          have hy' : y = x / 8 := by rw [← hy, Int.tdiv_eq_ediv_of_nonneg hx0]
          have hz' : z = x % 8 := by rw [← hz, Int.tmod_eq_emod_of_nonneg hx0]
          obtain ⟨n8, hn8⟩ : ∃ n, 8 * z = n := ⟨_, rfl⟩
          have y0 : 0 ≤ y := by omega
          have y1 : y < 8 := by omega
          have yw : wrap64 y = y := by unfold wrap64; omega
          have zw : wrap64 z = z := by unfold wrap64; omega
          have nw : wrap64 n8 = n8 := by unfold wrap64; omega
          have nwu : IntKind.u64.wrap n8 = n8 := by rw [IntKind.wrap_u64]; omega
          have n8a : 0 ≤ n8 := by omega
          have n8b : n8 ≤ 64 := by omega
          have yk : y.toNat = x.toNat / 8 := by omega
          have nk : n8 = 8 * ((x.toNat % 8 : Nat) : Int) := by omega
          obtain ⟨v_q, hv_q⟩ : ∃ v, v = HF.getD y.toNat 0 := ⟨_, rfl⟩
          obtain ⟨sv2, hsv2⟩ : ∃ v, shr .u64 v_q n8 = v := ⟨_, rfl⟩
          have hsv3 : v_q / 2 ^ min n8.toNat 64 = sv2 := hsv2
          have hsv4 : v_q / 2 ^ n8.toNat = sv2 := shr_small hsv2 n8b
          have aS2 := A11.out.grown (by rw [HHl2.out]; decide) HG2.out (by have := NE7S.out; simpa using this.symm)
          have s0 := aS2.cell y.toNat (by rw [HHl2.out]; omega)
          rw [← hv_q] at s0
          have s1 := HV.out.cell x.toNat (by rw [digestTo_length]; omega)
          have s2 := HV.out.frozen x.toNat (by rw [digestTo_length]; omega)
          obtain ⟨bo, hbo⟩ : ∃ b, b = IntKind.u8.wrap sv2 := ⟨_, rfl⟩
          have hb2 : bo = outB HF x.toNat := by rw [hbo, ← hsv2, hv_q, yk, nk]; rfl
          have n0_ := HV.out.set x.toNat (by rw [digestTo_length]; omega) bo
          rw [hb2, digestTo_set _ _ (by omega), ← hb2] at n0_
          have n1_ := grown_set HG2.out x.toNat (.int .u8 bo)
          have N0 := Aside0.mk n0_
          have N1 := Aside0.mk n1_
          have hbo' := hbo.symm
          clear hv_q hsv2 aS2 HV hbo hb2 n0_ n1_ yk nk hy' hz'
          go_wp2
          exact ⟨⟨x + 1, rfl, ⟨by omega, by omega⟩, by rw [show (x + 1).toNat = x.toNat + 1 by omega]; exact N0, N1⟩, by simp [intOf]; omega⟩
        · have d1 : decide (x < 32) = false := decide_eq_false hx
          have hx9 : x = 32 := by omega
          subst hx9
          have hv := HV.out
          rw [show (32 : Int).toNat = 32 from rfl, digestTo_all] at hv
          obtain ⟨L, hL⟩ : ∃ L, L = (digestL HF).map (Value.int .u8) := ⟨_, rfl⟩
          have hLl : L.length = 32 := by rw [hL]; simp [digestL]
          have hLo : ∀ v ∈ L, v.oneCell' = true := by rw [hL]; exact one_of_map _
          have hR := hv.range
          rw [← hL] at hR
          have HR2 := Aside0.mk hR
          have HLl := Aside0.mk hLl
          have HLo := Aside0.mk hLo
          have HLe := Aside0.mk hL
          have t4 := there_of_block T11.out (HG2.out.block g4 LT411.out (by have := NE74.out; simpa using this.symm))
          have T12 := Aside0.mk t4
          have B12 := Aside0.mk (B11.out.grown HG2.out B11.out.size (fun j hj => by cases hj; exact G10n.out))
          clear hR hLl hLo hL hv HV hx hx0 hx1 t4
          go_wp2_with (first
            | ((with_reducible refine gate_dst (N := 88) rfl ?_); refine wpList_load_mid rfl 31 _ rfl g10 0 rfl L _ HR2.out Tryd.underlying31 rfl (by rw [HLl.out]; exact size_of info_a32) ?_)
            | ((with_reducible refine gate_store (t := 31) (p := 4) rfl ?_); refine wpList_store_mid rfl 31 _ _ rfl g4 0 L.toArray rfl rfl (by rw [List.size_toArray, HLl.out, ← HZl.out]; exact T12.out) (by rw [List.size_toArray, HLl.out]; exact size_of info_a32) (all_oneCell_toArray HLo.out) ?_))
          have BR := World.rangeAt_setCells_same wr g4 0 L (by rw [HLl.out, ← HZl.out]; exact T12.out)
          have hres := run_loadVar_mid (P := Tryd.prog) (wr.setCells g4 0 L) g4 0 31 L _ BR Tryd.underlying31 rfl (by rw [HLl.out]; exact size_of info_a32)
          refine bodyPost_ret (v := .agg L.toArray) (results_cell rfl _ rfl hres) rfl ?_
          refine ⟨?_, below_setCells g4 (by have := G4.out; omega) L 0 wr B12.out⟩
          rw [HLe.out, HKE.out, ← Hall.out, ← HH0.out, ← HE3.out])

set_option maxRecDepth 100000 in
set_option maxHeartbeats 4000000 in
theorem ref_Sum.calls (B : Option Addr) (cb : Nat) (p : List Int) (w : World) (hP : Kd.C (Kd.int .u8) w B p.length p) (hpb : p.length ≤ cb) (hp1 : p.length ≤ 10000000) (hpB : ∀ c ∈ p, 0 ≤ c ∧ c < 256) :
    Calls Tryd.prog 8 #[.slice B p.length cb] w fun e w' => e = .returned (.agg ((keyedL [] p).map (Value.int .u8)).toArray) ∧ Below w.heap.size w w' := by
  obtain ⟨Z, hZ⟩ : ∃ Z, Z = zero32.map (Value.int .u8) := ⟨_, rfl⟩
  have hZl : Z.length = 32 := by rw [hZ]; rfl
  have hal : ∀ w, (zeroValue 31).run Tryd.prog w = .ok (.agg Z.toArray) w := fun w => by rw [hZ]; exact zero_run info_a32 w
  obtain ⟨X, hX⟩ : ∃ X, X = (keyedL [] p).map (Value.int .u8) := ⟨_, rfl⟩
  have hXl : X.length = 32 := by rw [hX, List.length_map, keyedL_length]
  have hXo : ∀ v ∈ X, v.oneCell' = true := by rw [hX]; exact one_of_map _
  have HK : Aside0 (∀ w1, Below w.heap.size w w1 → Calls Tryd.prog 20 #[.slice none 0 0, .slice B p.length cb] w1 fun e w' => e = .returned (.agg X.toArray) ∧ Below w1.heap.size w1 w') := ⟨fun w1 hb => by
    rw [hX]
    exact ref_Keyed.calls none B 0 cb [] p w1 (Kd.C_nil _ _) (Nat.le_refl _) (Kd.C_below hP hb) hpb (by decide) hp1 (fun c hc => by cases hc) hpB⟩
  rw [← hX]
  have HZl := Aside0.mk hZl
  have HXl := Aside0.mk hXl
  have HXo := Aside0.mk hXo
  clear hX hZ hZl hXl hXo hP hpB
  go_enter Tryd.func8, Tryd.ntmps8
  go_upto_region 1 with ((with_reducible refine gate_dst (N := 2) rfl ?_); refine box_event ?hg (N := 2) ?hd (cs := Z.toArray) (t := 31) ?hr ?_; (case hd => rfl); (case hg => rfl); (case hr => first | (simp [execOp, Instr.alloc, hal, newVar, newRow, go_sem]; done) | (simp [execOp, Instr.alloc, hal, newVar, newRow, go_sem]; rfl)); intro g2 hg_ w2 hbox_ hb_; have G2 := Aside0.mk hg_; have BZ2 := Aside0.mk (there_box hbox_); have HB2 := Aside0.mk hb_; have LT2 := Aside0.mk (blk_lt hbox_); clear hg_ hbox_ hb_)
  go_wp2_with (first
    | (go_at_call 20; with_reducible refine (HK.out w2 HB2.out).mono ?_; rintro e w3 ⟨rfl, hb_⟩; have B3 := Aside0.mk hb_; have BZ3 := Aside0.mk (there_of_below BZ2.out hb_ LT2.out); clear hb_)
    | ((with_reducible refine gate_store (t := 31) (p := 2) rfl ?_); refine wpList_store_mid rfl 31 _ _ rfl g2 0 X.toArray rfl rfl (by rw [List.size_toArray, HXl.out, ← HZl.out]; exact BZ3.out) (by rw [List.size_toArray, HXl.out]; exact size_of info_a32) (all_oneCell_toArray HXo.out) ?_))
  have BR := World.rangeAt_setCells_same w3 g2 0 X (by rw [HXl.out, ← HZl.out]; exact BZ3.out)
  have hres := run_loadVar_mid (P := Tryd.prog) (w3.setCells g2 0 X) g2 0 31 X _ BR Tryd.underlying31 rfl (by rw [HXl.out]; exact size_of info_a32)
  refine bodyPost_ret (v := .agg X.toArray) (results_cell rfl _ rfl hres) rfl ?_
  exact ⟨rfl, below_setCells g2 (by have := G2.out; omega) X 0 w3 (below_step HB2.out B3.out)⟩
end Go.Proofs.YtilckocpgififaaDoor.G

/- Numbers as bytes, plainly: what compact's Size, lays, Put and Take compute. -/
namespace Go.Proofs.YtilckocpgififaaDoor.PNum
open Go.RowKit Go.Proofs.YtilckocpgififaaDoor.G Go.Proofs.YtilckocpgififaaDoorW.PrintWords Go.Proofs.YtilckocpgififaaDoorW.PrintMore
set_option linter.unusedVariables false
set_option linter.unusedSimpArgs false

theorem wrap_in {a : Int} (h0 : 0 ≤ a) (h : a ≤ 9223372036854775807) : wrap64 a = a := by unfold wrap64; omega
theorem mx_eq (a b : Int) : mx a b = max a b := by unfold mx; omega
theorem mn_eq (a b : Int) : mn a b = min a b := by unfold mn; omega

/-! ### bytes, the lowest first -/
def lowB (n : Int) : Nat → List Int
  | 0 => []
  | s + 1 => n % 256 :: lowB (n / 256) s
def IsBytes (l : List Int) : Prop := ∀ c ∈ l, 0 ≤ c ∧ c < 256
theorem lowB_length (n : Int) (s : Nat) : (lowB n s).length = s := by
  induction s generalizing n with
  | zero => rfl
  | succ s ih => simp [lowB, ih]
theorem lowB_bytes (n : Int) (s : Nat) : IsBytes (lowB n s) := by
  induction s generalizing n with
  | zero => intro c h; simp [lowB] at h
  | succ s ih =>
    intro c h
    simp only [lowB, List.mem_cons] at h
    rcases h with rfl | h
    · omega
    · exact ih _ c h
theorem IsBytes.append {a b : List Int} (ha : IsBytes a) (hb : IsBytes b) : IsBytes (a ++ b) := fun c h => (List.mem_append.1 h).elim (ha c) (hb c)

/-! ### sizes -/
def heldN (n : Int) : Int := min (max n 0) 4611686018427387904
theorem heldN_bound (n : Int) : 0 ≤ heldN n ∧ heldN n ≤ 4611686018427387904 := by unfold heldN; omega
theorem heldN_in {n : Int} (h0 : 0 ≤ n) (h : n ≤ 4611686018427387904) : heldN n = n := by unfold heldN; omega
theorem heldN_held (n : Int) : heldN (heldN n) = heldN n := heldN_in (heldN_bound n).1 (heldN_bound n).2
def widthN (n : Int) : Nat := if n < 4294967296 then 4 else if n < 1099511627776 then 5 else if n < 281474976710656 then 6 else if n < 72057594037927936 then 7 else 8
def sizeN (n : Int) : Nat := if heldN n < 64 then 1 else if heldN n < 16384 then 2 else if heldN n < 1073741824 then 4 else 1 + widthN (heldN n)
def numB (n : Int) : List Int :=
  if heldN n < 64 then lowB (4 * heldN n) 1 else if heldN n < 16384 then lowB (4 * heldN n + 1) 2 else if heldN n < 1073741824 then lowB (4 * heldN n + 2) 4
  else (4 * ((widthN (heldN n) : Int) - 4) + 3) :: lowB (heldN n) (widthN (heldN n))
theorem widthN_range (n : Int) : 4 ≤ widthN n ∧ widthN n ≤ 8 := by unfold widthN; (repeat' split) <;> omega
theorem sizeN_range (n : Int) : 1 ≤ sizeN n ∧ sizeN n ≤ 9 := by have := widthN_range (heldN n); unfold sizeN; (repeat' split) <;> omega
theorem numB_length (n : Int) : (numB n).length = sizeN n := by
  unfold numB sizeN
  split
  · simp [lowB_length]
  · split
    · simp [lowB_length]
    · split
      · simp [lowB_length]
      · simp [lowB_length]; omega
theorem numB_bytes (n : Int) : IsBytes (numB n) := by
  have := widthN_range (heldN n)
  unfold numB
  (repeat' split)
  · exact lowB_bytes _ _
  · exact lowB_bytes _ _
  · exact lowB_bytes _ _
  · intro c h
    rcases List.mem_cons.1 h with rfl | h
    · omega
    · exact lowB_bytes _ _ c h
theorem sizeN_held (n : Int) : sizeN (heldN n) = sizeN n := by unfold sizeN; rw [heldN_held]

theorem held_tells (n : Int) : compact_held.f n = some (heldN n) := by
  unfold compact_held.f heldN; rw [mx_eq, mn_eq]

theorem shr_at (n : Int) (m : Nat) (h : m ≤ 64) : shr .i64 n (m : Int) = n / 2 ^ m := by
  unfold shr
  rw [show min ((m : Int)).toNat IntKind.i64.bits = m from by simp [IntKind.bits]; omega]

theorem width_step (k : Nat) (n : Int) (x : Nat) (hx : x < 8) :
    compact_width.l0 (k + 1) n x = if n / 2 ^ (8 * x) > 0 then compact_width.l0 k n ((x + 1 : Nat) : Int) else some (x : Int) := by
  have e : wrap64 (8 * (x : Int)) = ((8 * x : Nat) : Int) := by rw [wrap_in (by omega) (by omega)]; omega
  have e1 : wrap64 ((x : Int) + 1) = ((x + 1 : Nat) : Int) := by rw [wrap_in (by omega) (by omega)]; omega
  rw [compact_width.l0, if_pos (by omega), e, if_pos (by omega), shr_at _ _ (by omega), e1]
theorem width_end (k : Nat) (n : Int) : compact_width.l0 (k + 1) n ((8 : Nat) : Int) = some 8 := by
  rw [compact_width.l0, if_neg (by omega)]; rfl

theorem pos_div (n p : Int) (hp : 0 < p) : (n / p > 0) ↔ p ≤ n := by
  constructor
  · intro h
    have h1 : 1 * p ≤ n := (Int.le_ediv_iff_mul_le hp).1 (by omega)
    omega
  · intro h
    have : 1 ≤ n / p := (Int.le_ediv_iff_mul_le hp).2 (by omega)
    omega

theorem width_tells (k : Nat) (n : Int) (hk : 5 ≤ k) : compact_width.f k n = some (widthN n : Int) := by
  obtain ⟨k, rfl⟩ : ∃ m, k = m + 5 := ⟨k - 5, by omega⟩
  unfold compact_width.f widthN
  have s4 := width_step (k + 4) n 4 (by omega)
  have s5 := width_step (k + 3) n 5 (by omega)
  have s6 := width_step (k + 2) n 6 (by omega)
  have s7 := width_step (k + 1) n 7 (by omega)
  have s8 := width_end k n
  have p4 := pos_div n (2 ^ (8 * 4)) (by decide)
  have p5 := pos_div n (2 ^ (8 * 5)) (by decide)
  have p6 := pos_div n (2 ^ (8 * 6)) (by decide)
  have p7 := pos_div n (2 ^ (8 * 7)) (by decide)
  rw [show ((2 : Int) ^ (8 * 4)) = 4294967296 from by decide] at s4 p4
  rw [show ((2 : Int) ^ (8 * 5)) = 1099511627776 from by decide] at s5 p5
  rw [show ((2 : Int) ^ (8 * 6)) = 281474976710656 from by decide] at s6 p6
  rw [show ((2 : Int) ^ (8 * 7)) = 72057594037927936 from by decide] at s7 p7
  refine Eq.trans s4 ?_
  by_cases h4 : n < 4294967296
  · rw [if_neg (by rw [p4]; omega), if_pos h4]
  · rw [if_pos (by rw [p4]; omega), if_neg h4]
    refine Eq.trans s5 ?_
    by_cases h5 : n < 1099511627776
    · rw [if_neg (by rw [p5]; omega), if_pos h5]
    · rw [if_pos (by rw [p5]; omega), if_neg h5]
      refine Eq.trans s6 ?_
      by_cases h6 : n < 281474976710656
      · rw [if_neg (by rw [p6]; omega), if_pos h6]
      · rw [if_pos (by rw [p6]; omega), if_neg h6]
        refine Eq.trans s7 ?_
        by_cases h7 : n < 72057594037927936
        · rw [if_neg (by rw [p7]; omega), if_pos h7]
        · rw [if_pos (by rw [p7]; omega), if_neg h7]
          exact s8

theorem size_tells (k : Nat) (n : Int) (hk : 5 ≤ k) : compact_Size.f k n = some (sizeN n : Int) := by
  have hw := widthN_range (heldN n)
  unfold compact_Size.f sizeN
  rw [held_tells, Option.bind_some, width_tells k _ hk, Option.bind_some]
  (repeat' split)
  · rfl
  · rfl
  · rfl
  · rw [wrap_in (by omega) (by omega)]; simp

/-! ### laying -/
theorem low_loop (s : Nat) : ∀ (k : Nat) (l : List Int) (n : Int) (i m : Nat), m = i + s → m ≤ 1000 → s < k → l.length + s < 140737488355328 →
    compact_low.l0 k l n m i = some (l ++ lowB n s) := by
  induction s with
  | zero =>
    intro k l n i m hm hb hk hl
    obtain ⟨k, rfl⟩ : ∃ q, k = q + 1 := ⟨k - 1, by omega⟩
    rw [compact_low.l0, if_neg (by omega)]
    simp [lowB]
  | succ s ih =>
    intro k l n i m hm hb hk hl
    obtain ⟨k, rfl⟩ : ∃ q, k = q + 1 := ⟨k - 1, by omega⟩
    have e1 : wrap64 ((i : Int) + 1) = ((i + 1 : Nat) : Int) := by rw [wrap_in (by omega) (by omega)]; omega
    rw [compact_low.l0, if_pos (by omega), if_pos (by omega), e1, ih k _ _ (i + 1) m (by omega) hb (by omega) (by simp; omega)]
    simp [lowB]
theorem low_tells (k : Nat) (l : List Int) (n : Int) (s : Nat) (hs : s ≤ 1000) (hk : s < k) (hl : l.length + s < 140737488355328) : compact_low.f k l n s = some (l ++ lowB n s) :=
  low_loop s k l n 0 s (by omega) hs hk hl

theorem lays_tells (k : Nat) (l : List Int) (n : Int) (hk : 10 ≤ k) (hl : l.length + 9 < 140737488355328) : compact_lays.f k l n = some (l ++ numB n) := by
  have hb := heldN_bound n
  have hw := widthN_range (heldN n)
  unfold compact_lays.f numB
  rw [held_tells, Option.bind_some, size_tells k _ (by omega), Option.bind_some, sizeN_held]
  unfold sizeN
  by_cases h1 : heldN n < 64
  · rw [if_pos h1, if_pos h1, if_pos h1, wrap_in (by omega) (by omega), low_tells k l _ 1 (by omega) (by omega) (by omega), Option.bind_some]
  · rw [if_neg h1, if_neg h1, if_neg h1]
    by_cases h2 : heldN n < 16384
    · rw [if_pos h2, if_pos h2, if_pos h2, wrap_in (a := 4 * heldN n) (by omega) (by omega), wrap_in (by omega) (by omega), low_tells k l _ 2 (by omega) (by omega) (by omega), Option.bind_some]
    · rw [if_neg h2, if_neg h2, if_neg h2]
      by_cases h3 : heldN n < 1073741824
      · rw [if_pos h3, if_pos h3, if_pos h3, wrap_in (a := 4 * heldN n) (by omega) (by omega), wrap_in (by omega) (by omega), low_tells k l _ 4 (by omega) (by omega) (by omega), Option.bind_some]
      · rw [if_neg h3, if_neg h3, if_neg h3]
        generalize widthN (heldN n) = q at hw
        have e1 : wrap64 (((1 + q : Nat) : Int) - 1) = (q : Int) := by rw [wrap_in (by omega) (by omega)]; omega
        have e2 : wrap64 ((q : Int) - 4) = (q : Int) - 4 := wrap_in (by omega) (by omega)
        have e3 : wrap64 (4 * ((q : Int) - 4)) = 4 * ((q : Int) - 4) := wrap_in (by omega) (by omega)
        have e4 : wrap64 (4 * ((q : Int) - 4) + 3) = 4 * ((q : Int) - 4) + 3 := wrap_in (by omega) (by omega)
        have e5 : (4 * ((q : Int) - 4) + 3) % 256 = 4 * ((q : Int) - 4) + 3 := by omega
        rw [e1, e2, e3, e4, e5, if_pos (by omega), low_tells k _ _ q (by omega) (by omega) (by simp; omega)]
        simp

/-- Numbers one behind the other. -/
def numsB (l : List Int) : List Int := l.flatMap numB
theorem numsB_cons (n : Int) (l : List Int) : numsB (n :: l) = numB n ++ numsB l := rfl
theorem numsB_length (l : List Int) : (numsB l).length ≤ 9 * l.length := by
  induction l with
  | nil => simp [numsB]
  | cons n l ih => have := sizeN_range n; rw [numsB_cons, List.length_append, numB_length, List.length_cons]; omega
theorem numsB_bytes (l : List Int) : IsBytes (numsB l) := by
  intro c h
  obtain ⟨n, _, hc⟩ := List.mem_flatMap.1 h
  exact numB_bytes n c hc

theorem rd_nat (l : List Int) (i : Nat) (h : i < l.length) : rd l (i : Int) = l[i] := by
  unfold rd
  simp [List.getD_eq_getElem?_getD, h]

theorem put_loop (ns : List Int) (d : Nat) : ∀ (k i : Nat) (b : List Int), i + d = ns.length → ns.length ≤ 1000000 → d + 11 ≤ k → b.length + 9 * d + 9 < 140737488355328 →
    compact_Put.l0 k b ns (ns.length : Int) i = some (b ++ numsB (ns.drop i)) := by
  induction d with
  | zero =>
    intro k i b hi hn hk hl
    obtain ⟨k, rfl⟩ : ∃ q, k = q + 1 := ⟨k - 1, by omega⟩
    rw [compact_Put.l0, if_neg (by omega), List.drop_eq_nil_of_le (by omega)]
    simp [numsB]
  | succ d ih =>
    intro k i b hi hn hk hl
    obtain ⟨k, rfl⟩ : ∃ q, k = q + 1 := ⟨k - 1, by omega⟩
    have hlt : i < ns.length := by omega
    have e1 : wrap64 ((i : Int) + 1) = ((i + 1 : Nat) : Int) := by rw [wrap_in (by omega) (by omega)]; omega
    have hs := sizeN_range ns[i]
    have hz := numB_length ns[i]
    rw [compact_Put.l0, if_pos (by omega), if_pos (by omega), if_pos (by omega), rd_nat ns i hlt, lays_tells k b _ (by omega) (by omega), Option.bind_some, e1]
    rw [ih k (i + 1) _ (by omega) hn (by omega) (by rw [List.length_append]; omega), List.drop_eq_getElem_cons hlt, numsB_cons]
    simp
theorem put_tells (k : Nat) (b ns : List Int) (hn : ns.length ≤ 1000000) (hk : ns.length + 11 ≤ k) (hb : b.length + 9 * ns.length + 9 < 140737488355328) : compact_Put.f k b ns = some (b ++ numsB ns) := by
  unfold compact_Put.f
  have hc : slices_Clone_byte_byte.f b = some b := by
    unfold slices_Clone_byte_byte.f
    rw [Option.bind_some, if_pos (by simp; omega)]; rfl
  rw [hc, Option.bind_some]
  exact put_loop ns ns.length k 0 b (by omega) hn hk hb

end Go.Proofs.YtilckocpgififaaDoor.PNum

/- Rows, plainly (without what chapter 1 asks of them). -/
namespace Go.Proofs.YtilckocpgififaaDoor.PNum
open Go.RowKit Go.Proofs.YtilckocpgififaaDoor.G Go.Proofs.YtilckocpgififaaDoorW.PrintWords Go.Proofs.YtilckocpgififaaDoorW.PrintMore Go.Proofs.YtilckocpgififaaDoorW.PrintLast
set_option linter.unusedVariables false
set_option linter.unusedSimpArgs false

def rowsSize (l : List (List Int)) : Nat := (l.map fun p => 1 + p.length).sum
theorem rowsSize_cons (p : List Int) (l : List (List Int)) : rowsSize (p :: l) = 1 + p.length + rowsSize l := by simp [rowsSize]
theorem rd_L (l : List (List Int)) (i : Nat) (h : i < l.length) : rd_L4 l (i : Int) = l[i] := by
  unfold rd_L4
  simp [List.getD_eq_getElem?_getD, h]
theorem length_le_rowsSize (l : List (List Int)) : l.length ≤ rowsSize l := by
  induction l with
  | nil => simp
  | cons p l ih => rw [rowsSize_cons, List.length_cons]; omega

def rowB (p : List Int) : List Int := numB (p.length : Int) ++ p
def rowsB (l : List (List Int)) : List Int := l.flatMap rowB
theorem rowsB_cons (p : List Int) (l : List (List Int)) : rowsB (p :: l) = rowB p ++ rowsB l := rfl
theorem rowB_length (p : List Int) : (rowB p).length = sizeN p.length + p.length := by unfold rowB; rw [List.length_append, numB_length]
theorem rowB_bytes {p : List Int} (h : IsBytes p) : IsBytes (rowB p) := (numB_bytes _).append h
theorem rowsB_bytes {l : List (List Int)} (h : ∀ p ∈ l, IsBytes p) : IsBytes (rowsB l) := by
  intro c hc
  obtain ⟨p, hp, hcp⟩ := List.mem_flatMap.1 hc
  exact rowB_bytes (h p hp) c hcp

theorem row_loop (ps : List (List Int)) (hps : rowsSize ps ≤ 1000000000) (d : Nat) : ∀ (k i : Nat) (b : List Int), i + d = ps.length → d + 11 ≤ k → b.length + 9 * rowsSize (ps.drop i) + 9 < 140737488355328 →
    compact_Row.l0 k b ps (ps.length : Int) i = some (b ++ rowsB (ps.drop i)) := by
  induction d with
  | zero =>
    intro k i b hi hk hl
    obtain ⟨k, rfl⟩ : ∃ q, k = q + 1 := ⟨k - 1, by omega⟩
    rw [compact_Row.l0, if_neg (by omega), List.drop_eq_nil_of_le (by omega)]
    simp [rowsB]
  | succ d ih =>
    intro k i b hi hk hl
    obtain ⟨k, rfl⟩ : ∃ q, k = q + 1 := ⟨k - 1, by omega⟩
    have hlt : i < ps.length := by omega
    have hll := length_le_rowsSize ps
    have e1 : wrap64 ((i : Int) + 1) = ((i + 1 : Nat) : Int) := by rw [wrap_in (by omega) (by omega)]; omega
    have hs := sizeN_range (ps[i].length : Int)
    have hz := numB_length (ps[i].length : Int)
    have hd := List.drop_eq_getElem_cons hlt
    rw [hd, rowsSize_cons] at hl
    have c1 : (i : Int) < (ps.length : Int) := by omega
    have c2 : (0 : Int) ≤ (i : Int) := by omega
    have c3 : (b ++ numB (ps[i].length : Int)).length + ps[i].length < 140737488355328 := by rw [List.length_append]; omega
    have hi' : i + 1 + d = ps.length := by omega
    have hk' : d + 11 ≤ k := by omega
    have hl' : (b ++ numB (ps[i].length : Int) ++ ps[i]).length + 9 * rowsSize (ps.drop (i + 1)) + 9 < 140737488355328 := by rw [List.length_append, List.length_append]; omega
    rw [compact_Row.l0, if_pos c1, if_pos c2, if_pos c1, rd_L ps i hlt, lays_tells k b _ (by omega) (by omega), Option.bind_some, if_pos c3, e1]
    rw [ih k (i + 1) _ hi' hk' hl', hd, rowsB_cons, rowB]
    simp
theorem row_tells (k : Nat) (b : List Int) (ps : List (List Int)) (hps : rowsSize ps ≤ 1000000000) (hk : ps.length + 11 ≤ k) (hb : b.length + 9 * rowsSize ps + 9 < 140737488355328) : compact_Row.f k b ps = some (b ++ rowsB ps) := by
  unfold compact_Row.f
  have hc : slices_Clone_byte_byte.f b = some b := by
    unfold slices_Clone_byte_byte.f
    rw [Option.bind_some, if_pos (by simp; omega)]; rfl
  rw [hc, Option.bind_some]
  exact row_loop ps hps ps.length k 0 b (by omega) hk (by simpa using hb)

/-! ### Cut -/

end Go.Proofs.YtilckocpgififaaDoor.PNum

/- Calls as bytes, plainly: what code.call, code.EncodeCall and the reference's call compute; how large a call is told. -/
namespace Go.Proofs.YtilckocpgififaaDoor.PNum
open Go.RowKit Go.Proofs.YtilckocpgififaaDoor.G Go.Proofs.YtilckocpgififaaDoorW.PrintWords Go.Proofs.YtilckocpgififaaDoorW.PrintMore Go.Proofs.YtilckocpgififaaDoorW.PrintLast
set_option linter.unusedVariables false
set_option linter.unusedSimpArgs false

/-- A call's bytes, so many batches within one another at most. -/
def encC : Nat → S24 → List Int
  | 0, c => numsB [c.f0, c.f1, c.f2, (c.f3.length : Int)]
  | f + 1, c => numsB [c.f0, c.f1, c.f2, (c.f3.length : Int)] ++ rowsB (c.f3.map (encC f))
def mostC : Nat → Nat
  | 0 => 36
  | f + 1 => 36 + 4 * (9 + mostC f)

theorem okT_kids {f : Nat} {c : S24} (h : okT (f + 1) c = true) : c.f3.length ≤ 4 ∧ ∀ x ∈ c.f3, okT f x = true := by
  unfold okT okC at h
  by_cases h5 : c.f0 = 5
  · rw [if_pos h5] at h
    simp only [Bool.and_eq_true, decide_eq_true_eq, List.all_eq_true] at h
    exact ⟨h.1.2.2, h.2⟩
  · rw [if_neg h5] at h
    have h0 : c.f3.length = 0 := by
      unfold leafOk at h
      split at h
      · simp only [Bool.and_eq_true, decide_eq_true_eq] at h; exact h.1.1
      · split at h
        · simp only [Bool.and_eq_true, decide_eq_true_eq] at h; exact h.1.1
        · split at h
          · simp only [Bool.and_eq_true, decide_eq_true_eq] at h; exact h.1.1
          · cases h
    have e := List.eq_nil_of_length_eq_zero h0
    rw [e]
    exact ⟨by simp, fun x hx => by cases hx⟩
theorem okT_leaf {c : S24} (h : okT 0 c = true) : c.f3 = [] := by
  unfold okT okC leafOk at h
  apply List.eq_nil_of_length_eq_zero
  split at h
  · simp only [Bool.and_eq_true, decide_eq_true_eq] at h; exact h.1.1
  · split at h
    · simp only [Bool.and_eq_true, decide_eq_true_eq] at h; exact h.1.1
    · split at h
      · simp only [Bool.and_eq_true, decide_eq_true_eq] at h; exact h.1.1
      · cases h
theorem rowsB_most (m : Nat) (l : List (List Int)) (h : ∀ x ∈ l, x.length ≤ m) : (rowsB l).length ≤ l.length * (9 + m) := by
  induction l with
  | nil => simp [rowsB]
  | cons p l ih =>
    have h1 := h p (by simp)
    have h2 := ih (fun x hx => h x (by simp [hx]))
    have h3 := sizeN_range (p.length : Int)
    rw [rowsB_cons, List.length_append, rowB_length, List.length_cons, Nat.add_mul]
    omega
theorem encC_most : ∀ (f : Nat) (c : S24), okT f c = true → (encC f c).length ≤ mostC f
  | 0, c, h => by have := numsB_length [c.f0, c.f1, c.f2, (c.f3.length : Int)]; simp only [encC, mostC, List.length_cons, List.length_nil] at *; omega
  | f + 1, c, h => by
    obtain ⟨h4, hk⟩ := okT_kids h
    have h1 := numsB_length [c.f0, c.f1, c.f2, (c.f3.length : Int)]
    have h2 := rowsB_most (mostC f) (c.f3.map (encC f)) (by
      intro x hx
      obtain ⟨y, hy, rfl⟩ := List.mem_map.1 hx
      exact encC_most f y (hk y hy))
    have h3 := Nat.mul_le_mul_right (9 + mostC f) h4
    rw [List.length_map] at h2
    simp only [encC, mostC, List.length_append, List.length_cons, List.length_nil] at *
    omega
theorem mostC_small {f : Nat} (h : f ≤ 3) : mostC f ≤ 3816 := by
  match f, h with
  | 0, _ => decide
  | 1, _ => decide
  | 2, _ => decide
  | 3, _ => decide
theorem encC_bytes : ∀ (f : Nat) (c : S24), IsBytes (encC f c)
  | 0, c => numsB_bytes _
  | f + 1, c => (numsB_bytes _).append (rowsB_bytes (by
      intro p hp
      obtain ⟨y, _, rfl⟩ := List.mem_map.1 hp
      exact encC_bytes f y))
theorem rd_natT (l : List S24) (i : Nat) (h : i < l.length) : rd_T24 l (i : Int) = l[i] := rd_T l i h

theorem call_loop (f : Nat) (hf : f ≤ 3) (l : List S24) (h4 : l.length ≤ 4) (N : Nat) (hN : 12 ≤ N) (ih : ∀ x ∈ l, okT f x = true → ∀ k, N ≤ k → code_call.f k x.f0 x.f1 x.f2 x.f3 = some (encC f x)) (hok : ∀ x ∈ l, okT f x = true) (d : Nat) :
    ∀ (k i : Nat) (b : List Int), i + d = l.length → d + N < k → b.length + 4000 * d < 1000000 → code_call.l0 k b l (l.length : Int) i = some (b ++ rowsB ((l.drop i).map (encC f))) := by
  induction d with
  | zero =>
    intro k i b hi hk hb
    obtain ⟨k, rfl⟩ : ∃ q, k = q + 1 := ⟨k - 1, by omega⟩
    rw [code_call.l0, if_neg (by omega), List.drop_eq_nil_of_le (by omega)]
    simp [rowsB]
  | succ d ihd =>
    intro k i b hi hk hb
    obtain ⟨k, rfl⟩ : ∃ q, k = q + 1 := ⟨k - 1, by omega⟩
    have hlt : i < l.length := by omega
    have e1 : wrap64 ((i : Int) + 1) = ((i + 1 : Nat) : Int) := by rw [wrap_in (by omega) (by omega)]; omega
    have c1 : (i : Int) < (l.length : Int) := by omega
    have c2 : (0 : Int) ≤ (i : Int) := by omega
    have hm := List.getElem_mem hlt
    have hlen := encC_most f _ (hok _ hm)
    have hsm := mostC_small hf
    have hsz : rowsSize [encC f l[i]] = 1 + (encC f l[i]).length := by simp [rowsSize]
    have hbs := sizeN_range ((encC f l[i]).length : Int)
    have hr := row_tells k b [encC f l[i]] (by omega) (by simp; omega) (by omega)
    have hrl : (rowsB [encC f l[i]]).length ≤ 9 + mostC f := by rw [rowsB_cons, List.length_append, rowB_length]; simp only [rowsB, List.flatMap_nil, List.length_nil]; omega
    rw [code_call.l0, if_pos c1, if_pos c2, if_pos c1, rd_natT l i hlt, ih _ hm (hok _ hm) k (by omega), Option.bind_some, hr, Option.bind_some, e1]
    rw [ihd k (i + 1) _ (by omega) (by omega) (by rw [List.length_append]; omega), List.drop_eq_getElem_cons hlt, List.map_cons, rowsB_cons, List.append_assoc]
    simp [rowsB]
def needC (f : Nat) : Nat := 20 + 10 * f
theorem call_tells : ∀ (f : Nat) (hf : f ≤ 3) (c : S24), okT f c = true → ∀ k, needC f ≤ k → code_call.f k c.f0 c.f1 c.f2 c.f3 = some (encC f c) := by
  intro f
  induction f with
  | zero =>
    intro hf c h k hk
    unfold needC at hk
    obtain ⟨k, rfl⟩ : ∃ q, k = q + 2 := ⟨k - 2, by omega⟩
    have hp := put_tells (k + 1) [] [c.f0, c.f1, c.f2, (c.f3.length : Int)] (by simp) (by simp; omega) (by simp)
    have e := okT_leaf h
    rw [code_call.f, hp, Option.bind_some, code_call.l0]
    rw [if_neg (by rw [e]; simp)]
    simp [encC]
  | succ f ih =>
    intro hf c h k hk
    obtain ⟨h4, hok⟩ := okT_kids h
    have hk' : needC f + 10 ≤ k := by unfold needC at *; omega
    have hN : 12 ≤ needC f := by unfold needC; omega
    obtain ⟨k, rfl⟩ : ∃ q, k = q + 1 := ⟨k - 1, by omega⟩
    have hp := put_tells k [] [c.f0, c.f1, c.f2, (c.f3.length : Int)] (by simp) (by simp; omega) (by simp)
    have hl := numsB_length [c.f0, c.f1, c.f2, (c.f3.length : Int)]
    simp only [List.length_cons, List.length_nil] at hl
    rw [code_call.f, hp, Option.bind_some, List.nil_append]
    rw [show (0 : Int) = ((0 : Nat) : Int) from rfl]
    rw [call_loop f (by omega) c.f3 h4 (needC f) hN (fun x hx hx' q hq => ih (by omega) x hx' q hq) hok c.f3.length k 0 _ (by omega) (by omega) (by omega)]
    simp [encC]
theorem isCall_tells (c : S24) : code_IsCall.f c.f0 c.f1 c.f2 c.f3 = some (okT 3 c) := by
  unfold code_IsCall.f code_isCall.f
  rw [if_pos rfl]; rfl
theorem encode_tells (c : S24) (k : Nat) (hk : 50 ≤ k) : code_EncodeCall.f k c.f0 c.f1 c.f2 c.f3 = some (if okT 3 c then (encC 3 c, 0) else ([], 1)) := by
  unfold code_EncodeCall.f
  rw [isCall_tells, Option.bind_some]
  by_cases h : okT 3 c = true
  · rw [if_pos h, if_pos h, call_tells 3 (by omega) c h k (by unfold needC; omega)]; rfl
  · rw [if_neg h, if_neg h]

/-! ### the reference's call -/

/-! ### how large a call is told -/
theorem call_ind {p : S24 → Prop} (h : ∀ c : S24, (∀ x ∈ c.f3, p x) → p c) : ∀ c, p c
  | ⟨a, b, n, l⟩ => h _ (fun x hx => call_ind h x)
termination_by c => SizeOf.sizeOf c
decreasing_by
  have := List.sizeOf_lt_of_mem hx
  simp only [S24.mk.sizeOf_spec] at *
  omega
theorem size_mono (c : S24) {k k' : Nat} (h : k ≤ k') {r : Int} (hr : althinglaw7_size.f k c.f0 c.f1 c.f2 c.f3 = some r) : althinglaw7_size.f k' c.f0 c.f1 c.f2 c.f3 = some r := by
  induction h with
  | refl => exact hr
  | step _ ih => exact althinglaw7_size.mono _ _ _ _ _ _ ih
theorem size_loop (l : List S24) (hl : l.length ≤ 9223372036854775807) (a b c : Int) (K : Nat) (ih : ∀ x ∈ l, ∀ k, K ≤ k → ∃ r, althinglaw7_size.f k x.f0 x.f1 x.f2 x.f3 = some r) (d : Nat) :
    ∀ (k i : Nat) (n : Int), i + d = l.length → d + K < k → ∃ r, althinglaw7_size.l0 k n i a b c l = some r := by
  induction d with
  | zero =>
    intro k i n hi hk
    obtain ⟨k, rfl⟩ : ∃ q, k = q + 1 := ⟨k - 1, by omega⟩
    exact ⟨n, by rw [althinglaw7_size.l0, if_neg (by omega)]⟩
  | succ d ihd =>
    intro k i n hi hk
    obtain ⟨k, rfl⟩ : ∃ q, k = q + 1 := ⟨k - 1, by omega⟩
    have hlt : i < l.length := by omega
    have e1 : wrap64 ((i : Int) + 1) = ((i + 1 : Nat) : Int) := by rw [wrap_in (by omega) (by omega)]; omega
    have c1 : (i : Int) < (l.length : Int) := by omega
    have c2 : (0 : Int) ≤ (i : Int) := by omega
    by_cases h3 : n < 300
    · obtain ⟨r, hr⟩ := ih _ (List.getElem_mem hlt) k (by omega)
      obtain ⟨q, hq⟩ := ihd k (i + 1) (wrap64 (n + r)) (by omega) (by omega)
      exact ⟨q, by rw [althinglaw7_size.l0, if_pos c1, if_pos h3, if_pos c2, rd_natT l i hlt, hr, Option.bind_some, e1]; exact hq⟩
    · exact ⟨n, by rw [althinglaw7_size.l0, if_pos c1, if_neg h3]⟩
/-- A call whose lists are no longer than can be. -/
def Fits : Nat → S24 → Prop
  | 0, _ => False
  | f + 1, c => c.f3.length ≤ 9223372036854775807 ∧ ∀ x ∈ c.f3, Fits f x
theorem size_some : ∀ (f : Nat) (c : S24), Fits f c → ∃ k r, althinglaw7_size.f k c.f0 c.f1 c.f2 c.f3 = some r
  | 0, c, h => h.elim
  | f + 1, c, ⟨hl, h⟩ => by
    have hK : ∀ l : List S24, (∀ x ∈ l, Fits f x) → ∃ K, ∀ x ∈ l, ∀ k, K ≤ k → ∃ r, althinglaw7_size.f k x.f0 x.f1 x.f2 x.f3 = some r := by
      intro l
      induction l with
      | nil => intro _; exact ⟨0, fun x hx => by cases hx⟩
      | cons x l ih =>
        intro hx
        obtain ⟨K, hK⟩ := ih (fun y hy => hx y (by simp [hy]))
        obtain ⟨k, r, hr⟩ := size_some f x (hx x (by simp))
        refine ⟨K + k, fun y hy q hq => ?_⟩
        rcases List.mem_cons.1 hy with rfl | hy
        · exact ⟨r, size_mono y (by omega) hr⟩
        · exact hK y hy q (by omega)
    obtain ⟨K, hK⟩ := hK c.f3 h
    obtain ⟨r, hr⟩ := size_loop c.f3 hl c.f0 c.f1 c.f2 K hK c.f3.length (c.f3.length + K + 1) 0 (wrap64 (1 + (c.f3.length : Int))) (by omega) (by omega)
    exact ⟨c.f3.length + K + 2, r, by rw [althinglaw7_size.f]; exact hr⟩
theorem Fits.more : ∀ {f : Nat} {c : S24}, Fits f c → Fits (f + 1) c
  | 0, _, h => h.elim
  | _ + 1, _, h => ⟨h.1, fun x hx => (h.2 x hx).more⟩
theorem Fits.mono {f f' : Nat} (h : f ≤ f') {c : S24} (hc : Fits f c) : Fits f' c := by
  induction h with
  | refl => exact hc
  | step _ ih => exact ih.more
theorem fits_list (l : List S24) (h : ∀ x ∈ l, ∃ f, Fits f x) : ∃ f, ∀ x ∈ l, Fits f x := by
  induction l with
  | nil => exact ⟨0, fun x hx => by cases hx⟩
  | cons x l ih =>
    obtain ⟨f, hf⟩ := h x (by simp)
    obtain ⟨g, hg⟩ := ih (fun y hy => h y (by simp [hy]))
    refine ⟨f + g, fun y hy => ?_⟩
    rcases List.mem_cons.1 hy with rfl | hy
    · exact hf.mono (by omega)
    · exact (hg y hy).mono (by omega)
theorem fits_kids (w : World) : ∀ (c : S24) (A : Option Addr), Kd.C k24 w A c.f3.length c.f3 → ∃ f, Fits f c := by
  apply call_ind
  intro c ih A h
  obtain ⟨f, hf⟩ := fits_list c.f3 (fun x hx => by
    obtain ⟨i, hi, rfl⟩ := List.mem_iff_getElem.1 hx
    obtain ⟨ad, A3, c3, eA, h0, h1, h2, h3, hl3, hC3⟩ := at_T24 h (i : Int) (by omega) (by omega)
    rw [rd_T c.f3 i hi] at hC3
    exact ih _ (List.getElem_mem hi) A3 hC3)
  have := C_short h
  exact ⟨f + 1, by omega, hf⟩

/-! ### more room changes nothing -/
end Go.Proofs.YtilckocpgififaaDoor.PNum

/- What the walk of code.taken needs: two results, a row of calls that grows by one, what taken is to show. -/
namespace Go.Proofs.YtilckocpgififaaDoor.G
open Go.RowKit Go.Shelf Go.Proofs.YtilckocpgififaaDoorW.PrintWords Go.Proofs.YtilckocpgififaaDoorW.PrintLast Go.Proofs.YtilckocpgififaaDoorW.PrintMore Go.Proofs.YtilckocpgififaaDoor.PNum
set_option linter.unusedVariables false
set_option linter.unusedSimpArgs false

theorem info_call : (Tryd.prog.info? 24).map (·.size) = some 4 := by kernel_rfl
end Go.Proofs.YtilckocpgififaaDoor.G
