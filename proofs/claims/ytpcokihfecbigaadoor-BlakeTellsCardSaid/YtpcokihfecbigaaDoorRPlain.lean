/- The digest by the document's way is the digest by the code's way, in plain Lean. -/
import Derived.Test.YtpcokihfecbigaaDoorRSpec
import Derived.Test.YtpcokihfecbigaaDoorBKeyed
import Derived.Laws.BitsAllLaws
import Derived.Lib.EndianBits
namespace Go.Proofs.YtpcokihfecbigaaDoor.G
open Go.RowKit Go.Proofs.YtpcokihfecbigaaDoorW.PrintWords Go.Proofs.YtpcokihfecbigaaDoorW.PrintLast Go.Proofs.YtpcokihfecbigaaDoorW.PrintMore
set_option linter.unusedVariables false
set_option linter.unusedSimpArgs false

/-! ### bits -/
theorem wr_mod (x : Int) : wr x = x % 18446744073709551616 := IntKind.wrap_u64 x
theorem xor_bv (a b : Int) : Go.bits .xor .u64 a b = ((BitVec.ofInt 64 a ^^^ BitVec.ofInt 64 b).toNat : Int) := by
  show IntKind.u64.wrap ((BitVec.ofInt 64 a ^^^ BitVec.ofInt 64 b).toNat : Int) = _
  have := (BitVec.ofInt 64 a ^^^ BitVec.ofInt 64 b).isLt
  rw [IntKind.wrap_u64]; omega
theorem or_bv (a b : Int) : Go.bits .or .u64 a b = ((BitVec.ofInt 64 a ||| BitVec.ofInt 64 b).toNat : Int) := by
  show IntKind.u64.wrap ((BitVec.ofInt 64 a ||| BitVec.ofInt 64 b).toNat : Int) = _
  have := (BitVec.ofInt 64 a ||| BitVec.ofInt 64 b).isLt
  rw [IntKind.wrap_u64]; omega
theorem ofInt_toNat (v : BitVec 64) : BitVec.ofInt 64 ((v.toNat : Nat) : Int) = v := by
  rw [BitVec.ofInt_natCast]; exact BitVec.ofNat_toNat 64 v |>.trans (by simp)
theorem xor_assoc64 (a b c : Int) : Go.bits .xor .u64 a (Go.bits .xor .u64 b c) = Go.bits .xor .u64 (Go.bits .xor .u64 a b) c := by
  rw [xor_bv b c, xor_bv a b, xor_bv, xor_bv, ofInt_toNat, ofInt_toNat, BitVec.xor_assoc]
theorem or_comm64 (a b : Int) : Go.bits .or .u64 a b = Go.bits .or .u64 b a := by
  rw [or_bv, or_bv, BitVec.or_comm]
theorem rot_same (n x : Int) : rotP n x = rotR n x := or_comm64 _ _
theorem sum_same (a b x : Int) : wr (a + wr (b + x)) = wr (wr (a + b) + x) := by
  simp only [wr_mod]; omega

/-! ### a round -/
theorem step_same (k : Nat) (V : List Int) (a b c d : Nat) (x y : Int) : blake_mixes.step k V a b c d x y = ref_mix.step k V a b c d x y := by
  unfold blake_mixes.step ref_mix.step
  split <;> simp only [rot_same, sum_same]
theorem mix_same (V : List Int) (a b c d : Nat) (x y : Int) : blake_mixes.f V a b c d x y = ref_mix.f V a b c d x y := by
  unfold blake_mixes.f ref_mix.f
  congr 1
  funext V k
  exact step_same k V a b c d x y
theorem stepA (M : List Int) (P : List Nat) (V : List Int) : rstep M P V 0 = halfA M P V 0 ∧ rstep M P V 1 = halfA M P V 1 ∧ rstep M P V 2 = halfA M P V 2 ∧ rstep M P V 3 = halfA M P V 3 := by
  refine ⟨?_, ?_, ?_, ?_⟩ <;> exact mix_same _ _ _ _ _ _ _
theorem stepB (M : List Int) (P : List Nat) (V : List Int) : rstep M P V 4 = halfB M P V 0 ∧ rstep M P V 5 = halfB M P V 1 ∧ rstep M P V 6 = halfB M P V 2 ∧ rstep M P V 7 = halfB M P V 3 := by
  refine ⟨?_, ?_, ?_, ?_⟩ <;> exact mix_same _ _ _ _ _ _ _
theorem round_same (M V : List Int) (P : List Nat) : roundL V M P = roundR M P V := by
  have r4 : List.range 4 = [0, 1, 2, 3] := rfl
  unfold roundL roundR runA runB
  rw [r4]
  simp only [List.foldl_cons, List.foldl_nil, (stepA M P _).1, (stepA M P _).2.1, (stepA M P _).2.2.1, (stepA M P _).2.2.2, (stepB M P _).1, (stepB M P _).2.1, (stepB M P _).2.2.1, (stepB M P _).2.2.2]
theorem rounds_same (M : List Int) : ∀ (l : List Nat) (V : List Int), roundsF M l V = roundsR M l V
  | [], _ => rfl
  | i :: l, V => by rw [roundsF, roundsR, round_same, rounds_same M l]

/-! ### the words of a block -/
/-- So many bytes as a number, the lowest first. -/
def lowF (f : Nat → Int) : Nat → Int
  | 0 => 0
  | j + 1 => lowF f j + f j * 256 ^ j
theorem lowF_range (f : Nat → Int) (hf : ∀ i, 0 ≤ f i ∧ f i < 256) : ∀ j, 0 ≤ lowF f j ∧ lowF f j < 256 ^ j
  | 0 => by simp [lowF]
  | j + 1 => by
    have ih := lowF_range f hf j
    have hj := hf j
    have hp : (0 : Int) < 256 ^ j := Int.pow_pos (by decide)
    have h1 : 0 ≤ f j * 256 ^ j := Int.mul_nonneg hj.1 (Int.le_of_lt hp)
    have h2 : f j * 256 ^ j ≤ 255 * 256 ^ j := Int.mul_le_mul_of_nonneg_right (by omega) (Int.le_of_lt hp)
    rw [lowF, Int.pow_succ]
    constructor <;> omega
theorem lowF_succ (f : Nat → Int) : ∀ j, lowF f (j + 1) = f 0 + 256 * lowF (fun i => f (i + 1)) j
  | 0 => by simp [lowF]
  | j + 1 => by
    rw [lowF, lowF_succ f j, lowF, Int.pow_succ, Int.mul_add, Int.add_assoc]
    congr 1
    congr 1
    rw [← Int.mul_assoc, Int.mul_comm]
theorem lowF_congr (f g : Nat → Int) (j : Nat) (h : ∀ i, i < j → f i = g i) : lowF f j = lowF g j := by
  induction j with
  | zero => rfl
  | succ j ih => rw [lowF, lowF, ih (fun i hi => h i (by omega)), h j (by omega)]
theorem lowF_zero (f : Nat → Int) (a : Nat) (h : ∀ i, a ≤ i → f i = 0) : ∀ j, a ≤ j → lowF f j = lowF f a
  | 0, ha => by have : a = 0 := by omega
                rw [this]
  | j + 1, ha => by
    by_cases e : a = j + 1
    · rw [e]
    · rw [lowF, h j (by omega), lowF_zero f a h j (by omega)]; omega
theorem p8 : (2 : Int) ^ 8 = 256 := by decide
theorem pow256_le (j : Nat) (h : j ≤ 7) : (256 : Int) ^ j ≤ 72057594037927936 := by
  have : j = 0 ∨ j = 1 ∨ j = 2 ∨ j = 3 ∨ j = 4 ∨ j = 5 ∨ j = 6 ∨ j = 7 := by omega
  rcases this with h | h | h | h | h | h | h | h <;> subst h <;> decide
theorem or_low (x b : Int) (j : Nat) (hj : j ≤ 7) (hx : 0 ≤ x) (hx' : x < 256 ^ j) (hb : 0 ≤ b ∧ b < 256) : Go.bits .or .u64 x (shl .u64 b (8 * (j : Int))) = x + b * 256 ^ j := by
  have hp : (0 : Int) < 256 ^ j := Int.pow_pos (by decide)
  have h7 := pow256_le j hj
  have e1 : (2 : Int) ^ min (8 * (j : Int)).toNat IntKind.u64.bits = 256 ^ j := by
    have : min (8 * (j : Int)).toNat IntKind.u64.bits = 8 * j := by simp only [IntKind.bits]; omega
    rw [this, Int.pow_mul, p8]
  have h1 : 0 ≤ b * 256 ^ j := Int.mul_nonneg hb.1 (Int.le_of_lt hp)
  have h2 : b * 256 ^ j ≤ 255 * 256 ^ j := Int.mul_le_mul_of_nonneg_right (by omega) (Int.le_of_lt hp)
  have e2 : shl .u64 b (8 * (j : Int)) = b * 256 ^ j := by
    unfold shl
    rw [e1]
    exact u64_wrap_id _ h1 (by omega)
  rw [e2]
  refine bits_join_low .u64 64 (by decide) wraps_u64 (8 * j) x _ hx ?_ (by omega) h1 ?_ (by omega)
  · rw [Int.pow_mul, p8]; exact hx'
  · rw [Int.pow_mul, p8]; exact Int.mul_emod_left _ _
theorem or_high (x b : Int) (hx : 0 ≤ x) (hx' : x < 72057594037927936) (hb : 0 ≤ b ∧ b < 256) : Go.bits .or .u64 (shl .u64 x 8) b = b + 256 * x := by
  have e2 : shl .u64 x 8 = x * 256 := by
    unfold shl
    rw [show (2 : Int) ^ min (8 : Int).toNat IntKind.u64.bits = 256 by decide]
    exact u64_wrap_id _ (by omega) (by omega)
  rw [e2, or_comm64, u64_or8 b (x * 256) hb.1 hb.2 (by omega) (by omega) (by omega)]
  omega
/-- Byte i of word t of a block. -/
def byteAt (b : List Int) (t i : Nat) : Int := b.getD (8 * t + i) 0
theorem getD_bytes (b : List Int) (hb : ∀ c ∈ b, 0 ≤ c ∧ c < 256) (i : Nat) : 0 ≤ b.getD i 0 ∧ b.getD i 0 < 256 := by
  rw [List.getD_eq_getElem?_getD]
  cases h : b[i]? with
  | none => exact ⟨by decide, by decide⟩
  | some c => exact hb c (List.mem_of_getElem? h)
/-- The words behind so many bytes. -/
def wordsTo (b : List Int) (k : Nat) : List Int := (List.range 16).map fun t => lowF (byteAt b t) (min 8 (k - 8 * t))
theorem wordsTo_length (b : List Int) (k : Nat) : (wordsTo b k).length = 16 := by simp [wordsTo]
theorem wordsTo_get (b : List Int) (k t : Nat) (ht : t < 16) : (wordsTo b k).getD t 0 = lowF (byteAt b t) (min 8 (k - 8 * t)) := by
  unfold wordsTo
  rw [List.getD_eq_getElem?_getD, List.getElem?_map, List.getElem?_range ht]; rfl
theorem wordsTo_zero (b : List Int) : wordsTo b 0 = zero16 := by
  unfold wordsTo zero16
  refine List.ext_getElem? fun t => ?_
  by_cases ht : t < 16
  · rw [List.getElem?_map, List.getElem?_range ht, List.getElem?_replicate, if_pos ht]
    simp only [Option.map_some, Nat.zero_sub, Nat.min_zero, lowF]
  · rw [List.getElem?_eq_none (by simp; omega), List.getElem?_eq_none (by simp; omega)]
theorem wordsTo_or (b : List Int) (hb : ∀ c ∈ b, 0 ≤ c ∧ c < 256) (k : Nat) (hk : k < 128) : orAt (wordsTo b k) k (b.getD k 0) = wordsTo b (k + 1) := by
  have hq : k / 8 < 16 := by omega
  unfold orAt
  rw [wordsTo_get b k _ hq]
  have hm : min 8 (k - 8 * (k / 8)) = k % 8 := by omega
  have hm1 : min 8 (k + 1 - 8 * (k / 8)) = k % 8 + 1 := by omega
  have hr := lowF_range (byteAt b (k / 8)) (fun i => getD_bytes b hb _) (k % 8)
  rw [hm, or_low _ _ _ (by omega) hr.1 hr.2 (getD_bytes b hb k)]
  refine List.ext_getElem? fun t => ?_
  by_cases ht : t < 16
  · rw [List.getElem?_set]
    rw [wordsTo_length]
    by_cases e : k / 8 = t
    · subst e
      rw [if_pos rfl, if_pos ht]
      unfold wordsTo
      rw [List.getElem?_map, List.getElem?_range ht]
      simp only [Option.map_some, Option.some.injEq]
      rw [hm1, lowF]
      congr 1
      unfold byteAt
      rw [show 8 * (k / 8) + k % 8 = k by omega]
    · rw [if_neg e]
      unfold wordsTo
      rw [List.getElem?_map, List.getElem?_map, List.getElem?_range ht]
      simp only [Option.map_some, Option.some.injEq]
      congr 1
      omega
  · rw [List.getElem?_eq_none (by rw [List.length_set, wordsTo_length]; omega), List.getElem?_eq_none (by rw [wordsTo_length]; omega)]
theorem wordsF_to (b : List Int) (hb : ∀ c ∈ b, 0 ≤ c ∧ c < 256) (hl : b.length ≤ 128) : ∀ (l : List Int) (k : Nat), b.drop k = l → wordsF l k (wordsTo b k) = wordsTo b (k + l.length)
  | [], k, _ => rfl
  | c :: l, k, h => by
    have hk : k < b.length := by
      have := congrArg List.length h
      rw [List.length_drop, List.length_cons] at this; omega
    have hc : b.getD k 0 = c := by
      have e := List.getElem_cons_drop hk
      rw [h] at e
      rw [List.getD_eq_getElem?_getD, List.getElem?_eq_getElem hk]
      exact (List.cons.inj e).1
    have hd : b.drop (k + 1) = l := by rw [← List.tail_drop, h]; rfl
    rw [wordsF, ← hc, wordsTo_or b hb k (by omega), wordsF_to b hb hl l (k + 1) hd, List.length_cons]
    congr 1
    omega
theorem getD_pad (b : List Int) (n i : Nat) : (b ++ List.replicate n 0).getD i 0 = b.getD i 0 := by
  rw [List.getD_eq_getElem?_getD, List.getD_eq_getElem?_getD]
  by_cases h : i < b.length
  · rw [List.getElem?_append_left h]
  · rw [List.getElem?_append_right (by omega), List.getElem?_eq_none (l := b) (by omega), List.getElem?_replicate]
    split <;> rfl
theorem wordP_low (p : List Int) (hp : ∀ i, 0 ≤ p.getD i 0 ∧ p.getD i 0 < 256) (t : Nat) : ∀ j, j ≤ 8 → wordP p t j = lowF (fun i => p.getD (8 * t + (8 - j + i)) 0) j
  | 0, _ => rfl
  | j + 1, h => by
    have ih := wordP_low p hp t j (by omega)
    have hr := lowF_range (fun i => p.getD (8 * t + (8 - j + i)) 0) (fun i => hp _) j
    rw [← ih] at hr
    have h7 := pow256_le j (by omega)
    rw [wordP, or_high _ _ hr.1 (by omega) (hp _), lowF_succ, ih]
    refine congr (congrArg _ ?_) (congrArg _ (lowF_congr _ _ _ fun i hi => ?_))
    · rw [show 8 - (j + 1) + 0 = 7 - j by omega]
    · rw [show 8 - (j + 1) + (i + 1) = 8 - j + i by omega]
theorem words_same (b : List Int) (hb : ∀ c ∈ b, 0 ≤ c ∧ c < 256) (hl : b.length ≤ 128) (n : Nat) : wordsL b = wordsR (b ++ List.replicate n 0) := by
  unfold wordsL
  have e := wordsF_to b hb hl b 0 rfl
  rw [wordsTo_zero, Nat.zero_add] at e
  rw [e]
  unfold wordsTo wordsR
  refine List.map_congr_left fun t ht => ?_
  have ht := List.mem_range.1 ht
  rw [wordP_low _ (fun i => by rw [getD_pad]; exact getD_bytes b hb i) t 8 (by omega)]
  have hf : (fun i => (b ++ List.replicate n 0).getD (8 * t + (8 - 8 + i)) 0) = byteAt b t := funext fun i => by
    rw [getD_pad]; unfold byteAt; rw [show 8 - 8 + i = i by omega]
  rw [hf]
  by_cases h8 : b.length - 8 * t < 8
  · refine (lowF_zero _ _ (fun i hi => ?_) 8 (by omega)).symm
    unfold byteAt
    rw [List.getD_eq_getElem?_getD, List.getElem?_eq_none (by omega)]; rfl
  · rw [show min 8 (b.length - 8 * t) = 8 by omega]

/-! ### a block -/
theorem getD_left (H R : List Int) (i : Nat) (h : i < H.length) : (H ++ R).getD i 0 = H.getD i 0 := by
  rw [List.getD_eq_getElem?_getD, List.getD_eq_getElem?_getD, List.getElem?_append_left h]
theorem out_same (V : List Int) (c : Int) : ∀ (l : List Nat) (H : List Int), (∀ i ∈ l, i < H.length) → outF V l (H ++ [c]) = outR V l H ++ [c]
  | [], _, _ => rfl
  | i :: l, H, h => by
    have hi := h i List.mem_cons_self
    rw [outF, outR, getD_left _ _ _ hi, List.set_append_left _ _ hi, xor_assoc64]
    exact out_same V c l _ (fun j hj => by rw [List.length_set]; exact h j (List.mem_cons_of_mem _ hj))
theorem block_same (H b : List Int) (at_ : Nat) (last : Bool) (n : Nat) (hH : H.length = 8) (hb : ∀ c ∈ b, 0 ≤ c ∧ c < 256) (hl : b.length ≤ 128) :
    blockL (H ++ [wr (at_ : Int)]) b last = blockR H (b ++ List.replicate n 0) ((at_ + b.length : Nat) : Int) last ++ [wr ((at_ + b.length : Nat) : Int)] := by
  have hc : countL (H ++ [wr (at_ : Int)]) b.length = wr ((at_ + b.length : Nat) : Int) := by
    unfold countL
    rw [List.getD_eq_getElem?_getD, List.getElem?_append_right (by omega), hH]
    show wr (wr (at_ : Int) + wr (b.length : Int)) = _
    simp only [wr_mod]; omega
  unfold blockL blockR
  rw [hc, List.set_append_right _ _ (by omega), hH]
  show outF _ _ (H ++ [wr ((at_ + b.length : Nat) : Int)]) = _
  rw [out_same _ _ _ _ (fun i hi => by have := List.mem_range.1 hi; omega), rounds_same, words_same b hb hl n]
  have hv : vInit (H ++ [wr (at_ : Int)]) (wr ((at_ + b.length : Nat) : Int)) last = vInitR H (wr ((at_ + b.length : Nat) : Int)) last := by
    unfold vInit vInitR
    rw [List.take_append_of_le_length (by omega), List.take_of_length_le (by omega)]
  rw [hv]

/-! ### the digest -/
/-- The reference's blocks: what is left, how many bytes were hashed, the words. -/
def blocksR : Nat → List Int → Nat → List Int → List Int
  | 0, r, at_, H => blockR H (r ++ List.replicate (128 - r.length) 0) ((at_ + r.length : Nat) : Int) true
  | n + 1, r, at_, H => if 128 < r.length then blocksR n (r.drop 128) (at_ + 128) (blockR H (r.take 128) ((at_ + 128 : Nat) : Int) false)
      else blockR H (r ++ List.replicate (128 - r.length) 0) ((at_ + r.length : Nat) : Int) true
theorem blocksR_length : ∀ (n : Nat) (r : List Int) (at_ : Nat) (H : List Int), (blocksR n r at_ H).length = H.length
  | 0, _, _, _ => blockR_length _ _ _ _
  | n + 1, r, at_, H => by
    rw [blocksR]
    split
    · rw [blocksR_length n, blockR_length]
    · exact blockR_length _ _ _ _
def beginR (n : Nat) : List Int := beginV.set 0 (Go.bits .xor .u64 (Go.bits .xor .u64 (beginV.getD 0 0) 16842784) (shl .u64 (wr (n : Int)) 8))
/-- The digest, by the reference. -/
def keyedR (key p : List Int) : List Int := digestL (blocksR (keyBlock (key.take 64) ++ p).length (keyBlock (key.take 64) ++ p) 0 (beginR (key.take 64).length))
theorem blocks_same : ∀ (n : Nat) (r : List Int) (at_ : Nat) (H : List Int), r.length ≤ n → (∀ c ∈ r, 0 ≤ c ∧ c < 256) → H.length = 8 → ∃ c, blocksF n r (H ++ [wr (at_ : Int)]) = blocksR n r at_ H ++ [c]
  | 0, r, at_, H, hn, hb, hH => ⟨_, block_same H r at_ true (128 - r.length) hH hb (by omega)⟩
  | n + 1, r, at_, H, hn, hb, hH => by
    rw [blocksF, blocksR]
    by_cases h : 128 < r.length
    · rw [if_pos h, if_pos h]
      have ht : (r.take 128).length = 128 := by rw [List.length_take]; omega
      have e := block_same H (r.take 128) at_ false 0 hH (fun c hc => hb c (List.mem_of_mem_take hc)) (by omega)
      rw [ht, List.replicate_zero, List.append_nil] at e
      rw [e]
      exact blocks_same n (r.drop 128) (at_ + 128) _ (by rw [List.length_drop]; omega) (fun c hc => hb c (List.mem_of_mem_drop hc)) ((blockR_length _ _ _ _).trans hH)
    · rw [if_neg h, if_neg h]
      exact ⟨_, block_same H r at_ true (128 - r.length) hH hb (by omega)⟩
theorem digest_left (H : List Int) (c : Int) (hH : H.length = 8) : digestL (H ++ [c]) = digestL H := by
  unfold digestL
  refine List.map_congr_left fun i hi => ?_
  have := List.mem_range.1 hi
  unfold outB
  rw [getD_left _ _ _ (by omega)]
theorem beginR_length (n : Nat) : (beginR n).length = 8 := by unfold beginR; rw [List.length_set]; rfl
theorem keyState_is (n : Nat) : keyState n = beginR n ++ [wr ((0 : Nat) : Int)] := by
  unfold keyState beginR mark
  rw [List.set_append_left _ _ (by decide), xor_assoc64]
  rfl
/-- The reference's digest is the code's. -/
theorem keyed_same (key p : List Int) (hk : ∀ c ∈ key, 0 ≤ c ∧ c < 256) (hp : ∀ c ∈ p, 0 ≤ c ∧ c < 256) : keyedR key p = keyedL key p := by
  unfold keyedR keyedL
  rw [keyState_is]
  obtain ⟨c, hc⟩ := blocks_same (keyBlock (key.take 64) ++ p).length (keyBlock (key.take 64) ++ p) 0 (beginR (key.take 64).length) (Nat.le_refl _) (fun c hc => by
    rcases List.mem_append.1 hc with h | h
    · exact keyBlock_bytes _ (fun c hc => hk c (List.mem_of_mem_take hc)) c h
    · exact hp c h) (beginR_length _)
  rw [hc, digest_left _ _ ((blocksR_length _ _ _ _).trans (beginR_length _))]
end Go.Proofs.YtpcokihfecbigaaDoor.G
