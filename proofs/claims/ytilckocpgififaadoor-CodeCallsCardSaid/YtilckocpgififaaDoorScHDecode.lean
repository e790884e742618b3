/- The digest by the document's way is the digest by the code's way, in plain Lean. -/
import Derived.Test.YtilckocpgififaaDoorScRBlock
import Derived.Test.YtilckocpgififaaDoorScBSumC
import Derived.Laws.BitsAllLaws
import Derived.Lib.EndianBits
import Derived.Test.YtilckocpgififaaDoorScHStep
import Derived.Test.YtilckocpgififaaDoorScBArr
import Derived.Test.YtilckocpgififaaDoorScBArrB
import Derived.Test.YtilckocpgififaaDoorScGx7
import Derived.Deep.RegionHeld3
namespace Go.Proofs.YtilckocpgififaaDoor.G
open Go.RowKit Go.Proofs.YtilckocpgififaaDoorW.PrintWords Go.Proofs.YtilckocpgififaaDoorW.PrintLast Go.Proofs.YtilckocpgififaaDoorW.PrintMore
set_option linter.unusedVariables false
set_option linter.unusedSimpArgs false
/-! ### bits -/
theorem wr_mod (x : Int) : wr x = x % 18446744073709551616:=IntKind.wrap_u64 x
theorem xor_bv (a b : Int) : Go.bits .xor .u64 a b = ((BitVec.ofInt 64 a ^^^ BitVec.ofInt 64 b).toNat : Int):=by
 show IntKind.u64.wrap ((BitVec.ofInt 64 a ^^^ BitVec.ofInt 64 b).toNat : Int) = _
 have:=(BitVec.ofInt 64 a ^^^ BitVec.ofInt 64 b).isLt;rw [IntKind.wrap_u64];omega
theorem or_bv (a b : Int) : Go.bits .or .u64 a b = ((BitVec.ofInt 64 a ||| BitVec.ofInt 64 b).toNat : Int):=by
 show IntKind.u64.wrap ((BitVec.ofInt 64 a ||| BitVec.ofInt 64 b).toNat : Int) = _
 have:=(BitVec.ofInt 64 a ||| BitVec.ofInt 64 b).isLt;rw [IntKind.wrap_u64];omega
theorem ofInt_toNat (v : BitVec 64) : BitVec.ofInt 64 ((v.toNat : Nat) : Int) = v:=by
 rw [BitVec.ofInt_natCast];exact BitVec.ofNat_toNat 64 v |>.trans (by simp)
theorem xor_assoc64 (a b c : Int) : Go.bits .xor .u64 a (Go.bits .xor .u64 b c) = Go.bits .xor .u64 (Go.bits .xor .u64 a b) c:=by
 rw [xor_bv b c,xor_bv a b,xor_bv,xor_bv,ofInt_toNat,ofInt_toNat,BitVec.xor_assoc]
theorem or_comm64 (a b : Int) : Go.bits .or .u64 a b = Go.bits .or .u64 b a:=by
 rw [or_bv,or_bv,BitVec.or_comm]
theorem rot_same (n x : Int) : rotP n x = rotR n x:=or_comm64 _ _
theorem sum_same (a b x : Int) : wr (a + wr (b + x)) = wr (wr (a + b) + x):=by
 simp only [wr_mod];omega
/-! ### a round -/
theorem step_same (k : Nat) (V : List Int) (a b c d : Nat) (x y : Int) : blake_mixes.step k V a b c d x y = ref_mix.step k V a b c d x y:=by
 unfold blake_mixes.step ref_mix.step
 split <;> simp only [rot_same,sum_same]
theorem mix_same (V : List Int) (a b c d : Nat) (x y : Int) : blake_mixes.f V a b c d x y = ref_mix.f V a b c d x y:=by
 unfold blake_mixes.f ref_mix.f
 congr 1
 funext V k
 exact step_same k V a b c d x y
theorem stepA (M : List Int) (P : List Nat) (V : List Int) : rstep M P V 0 = halfA M P V 0 ∧ rstep M P V 1 = halfA M P V 1 ∧ rstep M P V 2 = halfA M P V 2 ∧ rstep M P V 3 = halfA M P V 3:=by
 refine ⟨?_,?_,?_,?_⟩ <;> exact mix_same _ _ _ _ _ _ _
theorem stepB (M : List Int) (P : List Nat) (V : List Int) : rstep M P V 4 = halfB M P V 0 ∧ rstep M P V 5 = halfB M P V 1 ∧ rstep M P V 6 = halfB M P V 2 ∧ rstep M P V 7 = halfB M P V 3:=by
 refine ⟨?_,?_,?_,?_⟩ <;> exact mix_same _ _ _ _ _ _ _
theorem round_same (M V : List Int) (P : List Nat) : roundL V M P = roundR M P V:=by
 have r4 : List.range 4 = [0,1,2,3]:=rfl
 unfold roundL roundR runA runB
 rw [r4];simp only [List.foldl_cons,List.foldl_nil,(stepA M P _).1,(stepA M P _).2.1,(stepA M P _).2.2.1,(stepA M P _).2.2.2,(stepB M P _).1,(stepB M P _).2.1,(stepB M P _).2.2.1,(stepB M P _).2.2.2]
theorem rounds_same (M : List Int) : ∀ (l : List Nat) (V : List Int),roundsF M l V = roundsR M l V
 | [],_=>rfl
 | i :: l,V=>by rw [roundsF,roundsR,round_same,rounds_same M l]
/-! ### the words of a block -/
def lowF (f : Nat → Int) : Nat → Int
 | 0=>0
 | j + 1=>lowF f j + f j * 256 ^ j
theorem lowF_range (f : Nat → Int) (hf : ∀ i,0 ≤ f i ∧ f i < 256) : ∀ j,0 ≤ lowF f j ∧ lowF f j < 256 ^ j
 | 0=>by simp [lowF]
 | j + 1=>by
   have ih:=lowF_range f hf j;have hj:=hf j;have hp : (0 : Int) < 256 ^ j:=Int.pow_pos (by decide);have h1 : 0 ≤ f j * 256 ^ j:=Int.mul_nonneg hj.1 (Int.le_of_lt hp);have h2 : f j * 256 ^ j ≤ 255 * 256 ^ j:=Int.mul_le_mul_of_nonneg_right (by omega) (Int.le_of_lt hp);rw [lowF,Int.pow_succ]
   constructor <;> omega
theorem lowF_succ (f : Nat → Int) : ∀ j,lowF f (j + 1) = f 0 + 256 * lowF (fun i=>f (i + 1)) j
 | 0=>by simp [lowF]
 | j + 1=>by
   rw [lowF,lowF_succ f j,lowF,Int.pow_succ,Int.mul_add,Int.add_assoc]
   congr 1
   congr 1
   rw [← Int.mul_assoc,Int.mul_comm]
theorem lowF_congr (f g : Nat → Int) (j : Nat) (h : ∀ i,i < j → f i = g i) : lowF f j = lowF g j:=by
 induction j with
 | zero=>rfl
 | succ j ih=>rw [lowF,lowF,ih (fun i hi=>h i (by omega)),h j (by omega)]
theorem lowF_zero (f : Nat → Int) (a : Nat) (h : ∀ i,a ≤ i → f i = 0) : ∀ j,a ≤ j → lowF f j = lowF f a
 | 0,ha=>by have : a = 0:=by omega
            rw [this]
 | j + 1,ha=>by
   by_cases e : a = j + 1
   ·rw [e]
   rw [lowF,h j (by omega),lowF_zero f a h j (by omega)];omega
theorem p8 : (2 : Int) ^ 8 = 256:=by decide
theorem pow256_le (j : Nat) (h : j ≤ 7) : (256 : Int) ^ j ≤ 72057594037927936:=by
 have : j = 0 ∨ j = 1 ∨ j = 2 ∨ j = 3 ∨ j = 4 ∨ j = 5 ∨ j = 6 ∨ j = 7:=by omega
 rcases this with h | h | h | h | h | h | h | h <;> subst h <;> decide
theorem or_low (x b : Int) (j : Nat) (hj : j ≤ 7) (hx : 0 ≤ x) (hx' : x < 256 ^ j) (hb : 0 ≤ b ∧ b < 256) : Go.bits .or .u64 x (shl .u64 b (8 * (j : Int))) = x + b * 256 ^ j:=by
 have hp : (0 : Int) < 256 ^ j:=Int.pow_pos (by decide);have h7:=pow256_le j hj
 have e1 : (2 : Int) ^ min (8 * (j : Int)).toNat IntKind.u64.bits = 256 ^ j:=by
  have : min (8 * (j : Int)).toNat IntKind.u64.bits = 8 * j:=by simp only [IntKind.bits];omega
  rw [this,Int.pow_mul,p8]
 have h1 : 0 ≤ b * 256 ^ j:=Int.mul_nonneg hb.1 (Int.le_of_lt hp);have h2 : b * 256 ^ j ≤ 255 * 256 ^ j:=Int.mul_le_mul_of_nonneg_right (by omega) (Int.le_of_lt hp)
 have e2 : shl .u64 b (8 * (j : Int)) = b * 256 ^ j:=by
  unfold shl
  rw [e1];exact u64_wrap_id _ h1 (by omega)
 rw [e2];refine bits_join_low .u64 64 (by decide) wraps_u64 (8 * j) x _ hx ?_ (by omega) h1 ?_ (by omega)
 ·rw [Int.pow_mul,p8];exact hx'
 ·rw [Int.pow_mul,p8];exact Int.mul_emod_left _ _
theorem or_high (x b : Int) (hx : 0 ≤ x) (hx' : x < 72057594037927936) (hb : 0 ≤ b ∧ b < 256) : Go.bits .or .u64 (shl .u64 x 8) b = b + 256 * x:=by
 have e2 : shl .u64 x 8 = x * 256:=by
  unfold shl
  rw [show (2 : Int) ^ min (8 : Int).toNat IntKind.u64.bits = 256 by decide];exact u64_wrap_id _ (by omega) (by omega)
 rw [e2,or_comm64,u64_or8 b (x * 256) hb.1 hb.2 (by omega) (by omega) (by omega)]
 omega
def byteAt (b : List Int) (t i : Nat) : Int:=b.getD (8 * t + i) 0
theorem getD_bytes (b : List Int) (hb : ∀ c ∈ b,0 ≤ c ∧ c < 256) (i : Nat) : 0 ≤ b.getD i 0 ∧ b.getD i 0 < 256:=by
 rw [List.getD_eq_getElem?_getD]
 cases h : b[i]? with
 | none=>exact ⟨by decide,by decide⟩
 | some c=>exact hb c (List.mem_of_getElem? h)
def wordsTo (b : List Int) (k : Nat) : List Int:=(List.range 16).map fun t=>lowF (byteAt b t) (min 8 (k - 8 * t))
theorem wordsTo_length (b : List Int) (k : Nat) : (wordsTo b k).length = 16:=by simp [wordsTo]
theorem wordsTo_get (b : List Int) (k t : Nat) (ht : t < 16) : (wordsTo b k).getD t 0 = lowF (byteAt b t) (min 8 (k - 8 * t)):=by
 unfold wordsTo
 rw [List.getD_eq_getElem?_getD,List.getElem?_map,List.getElem?_range ht];rfl
theorem wordsTo_zero (b : List Int) : wordsTo b 0 = zero16:=by
 unfold wordsTo zero16
 refine List.ext_getElem? fun t=>?_
 by_cases ht : t < 16
 rotate_left
 ·rw [List.getElem?_eq_none (by simp;omega),List.getElem?_eq_none (by simp;omega)]
 rw [List.getElem?_map,List.getElem?_range ht,List.getElem?_replicate,if_pos ht];simp only [Option.map_some,Nat.zero_sub,Nat.min_zero,lowF]
theorem wordsTo_or (b : List Int) (hb : ∀ c ∈ b,0 ≤ c ∧ c < 256) (k : Nat) (hk : k < 128) : orAt (wordsTo b k) k (b.getD k 0) = wordsTo b (k + 1):=by
 have hq : k / 8 < 16:=by omega
 unfold orAt
 rw [wordsTo_get b k _ hq]
 have hm : min 8 (k - 8 * (k / 8)) = k % 8:=by omega
 have hm1 : min 8 (k + 1 - 8 * (k / 8)) = k % 8 + 1:=by omega
 have hr:=lowF_range (byteAt b (k / 8)) (fun i=>getD_bytes b hb _) (k % 8);rw [hm,or_low _ _ _ (by omega) hr.1 hr.2 (getD_bytes b hb k)];refine List.ext_getElem? fun t=>?_
 by_cases ht : t < 16
 rotate_left
 ·rw [List.getElem?_eq_none (by rw [List.length_set,wordsTo_length];omega),List.getElem?_eq_none (by rw [wordsTo_length];omega)]
 rw [List.getElem?_set];rw [wordsTo_length]
 by_cases e : k / 8 = t
 rotate_left
 ·rw [if_neg e]
  unfold wordsTo
  rw [List.getElem?_map,List.getElem?_map,List.getElem?_range ht];simp only [Option.map_some,Option.some.injEq]
  congr 1
  omega
 subst e;rw [if_pos rfl,if_pos ht]
 unfold wordsTo
 rw [List.getElem?_map,List.getElem?_range ht];simp only [Option.map_some,Option.some.injEq];rw [hm1,lowF]
 congr 1
 unfold byteAt
 rw [show 8 * (k / 8) + k % 8 = k by omega]
theorem wordsF_to (b : List Int) (hb : ∀ c ∈ b,0 ≤ c ∧ c < 256) (hl : b.length ≤ 128) : ∀ (l : List Int) (k : Nat),b.drop k = l → wordsF l k (wordsTo b k) = wordsTo b (k + l.length)
 | [],k,_=>rfl
 | c :: l,k,h=>by
   have hk : k < b.length:=by
    have:=congrArg List.length h;rw [List.length_drop,List.length_cons] at this;omega
   have hc : b.getD k 0 = c:=by
    have e:=List.getElem_cons_drop hk;rw [h] at e;rw [List.getD_eq_getElem?_getD,List.getElem?_eq_getElem hk];exact (List.cons.inj e).1
   have hd : b.drop (k + 1) = l:=by rw [← List.tail_drop,h];rfl
   rw [wordsF,← hc,wordsTo_or b hb k (by omega),wordsF_to b hb hl l (k + 1) hd,List.length_cons]
   congr 1
   omega
theorem getD_pad (b : List Int) (n i : Nat) : (b ++ List.replicate n 0).getD i 0 = b.getD i 0:=by
 rw [List.getD_eq_getElem?_getD,List.getD_eq_getElem?_getD]
 by_cases h : i < b.length
 ·rw [List.getElem?_append_left h]
 rw [List.getElem?_append_right (by omega),List.getElem?_eq_none (l:=b) (by omega),List.getElem?_replicate]
 split <;> rfl
theorem wordP_low (p : List Int) (hp : ∀ i,0 ≤ p.getD i 0 ∧ p.getD i 0 < 256) (t : Nat) : ∀ j,j ≤ 8 → wordP p t j = lowF (fun i=>p.getD (8 * t + (8 - j + i)) 0) j
 | 0,_=>rfl
 | j + 1,h=>by
   have ih:=wordP_low p hp t j (by omega);have hr:=lowF_range (fun i=>p.getD (8 * t + (8 - j + i)) 0) (fun i=>hp _) j;rw [← ih] at hr;have h7:=pow256_le j (by omega);rw [wordP,or_high _ _ hr.1 (by omega) (hp _),lowF_succ,ih];refine congr (congrArg _ ?_) (congrArg _ (lowF_congr _ _ _ fun i hi=>?_))
   ·rw [show 8 - (j + 1) + 0 = 7 - j by omega]
   ·rw [show 8 - (j + 1) + (i + 1) = 8 - j + i by omega]
theorem words_same (b : List Int) (hb : ∀ c ∈ b,0 ≤ c ∧ c < 256) (hl : b.length ≤ 128) (n : Nat) : wordsL b = wordsR (b ++ List.replicate n 0):=by
 unfold wordsL
 have e:=wordsF_to b hb hl b 0 rfl;rw [wordsTo_zero,Nat.zero_add] at e;rw [e]
 unfold wordsTo wordsR
 refine List.map_congr_left fun t ht=>?_;have ht:=List.mem_range.1 ht;rw [wordP_low _ (fun i=>by rw [getD_pad];exact getD_bytes b hb i) t 8 (by omega)]
 have hf : (fun i=>(b ++ List.replicate n 0).getD (8 * t + (8 - 8 + i)) 0) = byteAt b t:=funext fun i=>by
  rw [getD_pad];unfold byteAt;rw [show 8 - 8 + i = i by omega]
 rw [hf]
 by_cases h8 : b.length - 8 * t < 8
 rotate_left
 ·rw [show min 8 (b.length - 8 * t) = 8 by omega]
 refine (lowF_zero _ _ (fun i hi=>?_) 8 (by omega)).symm
 unfold byteAt
 rw [List.getD_eq_getElem?_getD,List.getElem?_eq_none (by omega)];rfl
/-! ### a block -/
theorem getD_left (H R : List Int) (i : Nat) (h : i < H.length) : (H ++ R).getD i 0 = H.getD i 0:=by
 rw [List.getD_eq_getElem?_getD,List.getD_eq_getElem?_getD,List.getElem?_append_left h]
theorem out_same (V : List Int) (c : Int) : ∀ (l : List Nat) (H : List Int),(∀ i ∈ l,i < H.length) → outF V l (H ++ [c]) = outR V l H ++ [c]
 | [],_,_=>rfl
 | i :: l,H,h=>by
   have hi:=h i List.mem_cons_self;rw [outF,outR,getD_left _ _ _ hi,List.set_append_left _ _ hi,xor_assoc64];exact out_same V c l _ (fun j hj=>by rw [List.length_set];exact h j (List.mem_cons_of_mem _ hj))
theorem block_same (H b : List Int) (at_ : Nat) (last : Bool) (n : Nat) (hH : H.length = 8) (hb : ∀ c ∈ b,0 ≤ c ∧ c < 256) (hl : b.length ≤ 128) :
 blockL (H ++ [wr (at_ : Int)]) b last = blockR H (b ++ List.replicate n 0) ((at_ + b.length : Nat) : Int) last ++ [wr ((at_ + b.length : Nat) : Int)]:=by
 have hc : countL (H ++ [wr (at_ : Int)]) b.length = wr ((at_ + b.length : Nat) : Int):=by
  unfold countL
  rw [List.getD_eq_getElem?_getD,List.getElem?_append_right (by omega),hH]
  show wr (wr (at_ : Int) + wr (b.length : Int)) = _
  simp only [wr_mod];omega
 unfold blockL blockR
 rw [hc,List.set_append_right _ _ (by omega),hH]
 show outF _ _ (H ++ [wr ((at_ + b.length : Nat) : Int)]) = _
 rw [out_same _ _ _ _ (fun i hi=>by have:=List.mem_range.1 hi;omega),rounds_same,words_same b hb hl n]
 have hv : vInit (H ++ [wr (at_ : Int)]) (wr ((at_ + b.length : Nat) : Int)) last = vInitR H (wr ((at_ + b.length : Nat) : Int)) last:=by
  unfold vInit vInitR
  rw [List.take_append_of_le_length (by omega),List.take_of_length_le (by omega)]
 rw [hv]
/-! ### the digest -/
def blocksR : Nat → List Int → Nat → List Int → List Int
 | 0,r,at_,H=>blockR H (r ++ List.replicate (128 - r.length) 0) ((at_ + r.length : Nat) : Int) true
 | n + 1,r,at_,H=>if 128 < r.length then blocksR n (r.drop 128) (at_ + 128) (blockR H (r.take 128) ((at_ + 128 : Nat) : Int) false)
     else blockR H (r ++ List.replicate (128 - r.length) 0) ((at_ + r.length : Nat) : Int) true
theorem blocksR_length : ∀ (n : Nat) (r : List Int) (at_ : Nat) (H : List Int),(blocksR n r at_ H).length = H.length
 | 0,_,_,_=>blockR_length _ _ _ _
 | n + 1,r,at_,H=>by
   rw [blocksR]
   split
   ·rw [blocksR_length n,blockR_length]
   ·exact blockR_length _ _ _ _
def beginR (n : Nat) : List Int:=beginV.set 0 (Go.bits .xor .u64 (Go.bits .xor .u64 (beginV.getD 0 0) 16842784) (shl .u64 (wr (n : Int)) 8))
def keyedR (key p : List Int) : List Int:=digestL (blocksR (keyBlock (key.take 64) ++ p).length (keyBlock (key.take 64) ++ p) 0 (beginR (key.take 64).length))
theorem blocks_same : ∀ (n : Nat) (r : List Int) (at_ : Nat) (H : List Int),r.length ≤ n → (∀ c ∈ r,0 ≤ c ∧ c < 256) → H.length = 8 → ∃ c,blocksF n r (H ++ [wr (at_ : Int)]) = blocksR n r at_ H ++ [c]
 | 0,r,at_,H,hn,hb,hH=>⟨_,block_same H r at_ true (128 - r.length) hH hb (by omega)⟩
 | n + 1,r,at_,H,hn,hb,hH=>by
   rw [blocksF,blocksR]
   by_cases h : 128 < r.length
   rotate_left
   ·rw [if_neg h,if_neg h];exact ⟨_,block_same H r at_ true (128 - r.length) hH hb (by omega)⟩
   rw [if_pos h,if_pos h]
   have ht : (r.take 128).length = 128:=by rw [List.length_take];omega
   have e:=block_same H (r.take 128) at_ false 0 hH (fun c hc=>hb c (List.mem_of_mem_take hc)) (by omega);rw [ht,List.replicate_zero,List.append_nil] at e;rw [e];exact blocks_same n (r.drop 128) (at_ + 128) _ (by rw [List.length_drop];omega) (fun c hc=>hb c (List.mem_of_mem_drop hc)) ((blockR_length _ _ _ _).trans hH)
theorem digest_left (H : List Int) (c : Int) (hH : H.length = 8) : digestL (H ++ [c]) = digestL H:=by
 unfold digestL
 refine List.map_congr_left fun i hi=>?_;have:=List.mem_range.1 hi
 unfold outB
 rw [getD_left _ _ _ (by omega)]
theorem beginR_length (n : Nat) : (beginR n).length = 8:=by unfold beginR;rw [List.length_set];rfl
theorem keyState_is (n : Nat) : keyState n = beginR n ++ [wr ((0 : Nat) : Int)]:=by
 unfold keyState beginR mark
 rw [List.set_append_left _ _ (by decide),xor_assoc64]
 rfl
theorem keyed_same (key p : List Int) (hk : ∀ c ∈ key,0 ≤ c ∧ c < 256) (hp : ∀ c ∈ p,0 ≤ c ∧ c < 256) : keyedR key p = keyedL key p:=by
 unfold keyedR keyedL
 rw [keyState_is]
 obtain ⟨c,hc⟩:=blocks_same (keyBlock (key.take 64) ++ p).length (keyBlock (key.take 64) ++ p) 0 (beginR (key.take 64).length) (Nat.le_refl _) (fun c hc=>by
  rcases List.mem_append.1 hc with h | h
  ·exact keyBlock_bytes _ (fun c hc=>hk c (List.mem_of_mem_take hc)) c h
  ·exact hp c h) (beginR_length _)
 rw [hc,digest_left _ _ ((blocksR_length _ _ _ _).trans (beginR_length _))]
end Go.Proofs.YtilckocpgififaaDoor.G
/- the reference's Keyed: the digest of a row, with a key (laid by mkrkeyed.py) -/
namespace Go.Proofs.YtilckocpgififaaDoor.G
open Go.RowKit Go.Proofs.YtilckocpgififaaDoorW.PrintWords Go.Proofs.YtilckocpgififaaDoorW.PrintLast Go.Proofs.YtilckocpgififaaDoorW.PrintMore
set_option linter.unusedVariables false
set_option linter.unusedSimpArgs false
theorem store_run {P : Program} {o : Oper} {a : Act} {w : World} {ty : TypeId} {x y : Operand} {g : Nat} {L : List Value} (ho : o.op = .store ty x y) (hx : a.eval x = .pointer (some ⟨g,0,none⟩)) (hy : a.eval y = .agg L.toArray)
 (ht : w.there g 0 L.length) (hi : (P.info? ty).map (·.size) = some L.length) (h1 : ∀ v ∈ L,v.oneCell' = true) :
 (execOp a.eval o).run P w = .ok .skip (w.setCells g 0 L):=by
 unfold execOp
 simp only [ho,hx,hy,Instr.storeAt,Instr.sureAddr,Sem.run_bind,Sem.run_pure,Result.andThen_ok,run_storeVar_mid w g 0 ty L.toArray (by rw [List.size_toArray];exact ht) (by rw [List.size_toArray];exact hi) (all_oneCell_toArray h1)]
section
variable {P : Program}
theorem run_append_none (w : World) (t ti ty e : TypeId) (i : TypeInfo) (ht : P.underlying t = some (.slice e)) (hti : P.underlying ti = some (.int .i64)) (hi : P.info? e = some i) (hby : i.bytes = 1) (A : Option Addr) (n c : Nat) (hc : n ≤ c) :
 (Builtin.append_ #[t,ti] ty #[.slice A n c,.int .i64 0]).run P w = .ok (.slice A n c) w:=by
 have hw : IntKind.i64.wrap 0 = 0:=by decide +kernel
 cases A <;> simp [Builtin.append_,run_underlying ht,run_underlying hti,sizeOf,typeInfo,zeroValue,hi,hby,asInt,asIntOf,hw,hc,storeCells]
theorem zeros_any {ops : Array Oper} {rest : List Oper} {o : Oper} {a : Act} {Q : Exit → Act → World → Prop} {w0 W : World} (base : Nat) (hgd : o.guard = none) (s x : Operand) (t ti e : TypeId)
 (ho : o.op = .call { callee:= .builtin .append,args:=#[s,x],argTypes:=#[t,ti] }) (ht : P.underlying t = some (.slice e)) (hti : P.underlying ti = some (.int .i64))
 (hinfo : (P.info? e).map (fun i=>(i.zero,i.size,i.bytes)) = some (some (.int .u8 0),1,1)) (A : Option Addr) (c : Nat) (xs : List Int) (m : Nat) (mi : Int) (hmi : mi = (m : Int)) (hc : xs.length ≤ c) (hs : a.eval s = .slice A xs.length c) (hx : a.eval x = .int .i64 mi)
 (HO : Kd.R (Kd.int .u8) e W base (fun _=>True) (.slice A xs.length c) xs) (HB : Below base w0 W) (hbase : base ≤ W.heap.size) (hl : xs.length + m ≤ 1000000000)
 (h : ∀ v1 w1,Kd.R (Kd.int .u8) e w1 base (fun _=>True) v1 (xs ++ List.replicate m 0) → Below base w0 w1 → wpList P ops Q rest (a.put o.dst v1) w1) : wpList P ops Q (o :: rest) a W:=by
 by_cases h0 : m = 0
 rotate_left
 ·exact zeros_event base hgd s x t ti e ho ht hti hinfo _ xs m mi hmi (by omega) hs hx HO HB hbase hl h
 subst h0;subst hmi;obtain ⟨i,hi,hzz⟩:=Option.map_eq_some_iff.1 hinfo;simp only [Prod.mk.injEq] at hzz;obtain ⟨hz,hsz,hby⟩:=hzz;have hr:=run_append_none (P:=P) W t ti o.type e i ht hti hi hby A xs.length c hc;refine wpList_plain hgd fun K hK=>?_
 unfold Oper.wp execOp
 simp only [ho,resolve,invoke,builtin,Sem.run_bind,Sem.run_pure,Result.andThen_ok,List.map_toArray,List.map_cons,List.map_nil,hs,hx];rw [show ((0 : Nat) : Int) = 0 from rfl,hr];refine hK _ _ (h _ _ ?_ HB)
 simpa using HO
end
theorem blocksR_more : ∀ (n m : Nat) (r : List Int) (at_ : Nat) (H : List Int),r.length ≤ n → n ≤ m → blocksR m r at_ H = blocksR n r at_ H
 | 0,m,r,at_,H,h,_=>by
   have : ¬ 128 < r.length:=by omega
   cases m with
   | zero=>rfl
   | succ m=>simp only [blocksR,if_neg this]
 | n + 1,m,r,at_,H,h,hm=>by
   obtain ⟨m,rfl⟩ : ∃ k,m = k + 1:=⟨m - 1,by omega⟩;rw [blocksR,blocksR]
   by_cases c : 128 < r.length
   rotate_left
   ·rw [if_neg c,if_neg c]
   rw [if_pos c,if_pos c];exact blocksR_more n m _ _ _ (by rw [List.length_drop];omega) (by omega)
theorem blocksR_step (r H : List Int) (at_ : Nat) (h : 128 < r.length) : blocksR r.length r at_ H = blocksR (r.drop 128).length (r.drop 128) (at_ + 128) (blockR H (r.take 128) ((at_ + 128 : Nat) : Int) false):=by
 obtain ⟨n,hn⟩ : ∃ n,r.length = n + 1:=⟨r.length - 1,by omega⟩;rw [hn,blocksR,if_pos h];exact blocksR_more _ _ _ _ _ (Nat.le_refl _) (by rw [List.length_drop];omega)
theorem blocksR_end (r H : List Int) (at_ : Nat) (h : ¬ 128 < r.length) : blocksR r.length r at_ H = blockR H (r ++ List.replicate (128 - r.length) 0) ((at_ + r.length : Nat) : Int) true:=by
 cases hn : r.length with
 | zero=>rw [blocksR,hn]
 | succ n=>rw [blocksR,if_neg h,hn]
def ref_keyed_r10.T : Bool × List (List Nat × List Nat):=(true,[([],[]),([],[]),([],[]),([],[]),([3],[3]),([1,2,4],[1,2,4]),([],[]),([6],[6]),([0,5,7],[0,5,7]),([8,8,0,1,2,3,4,5,6,7,8],[8])])
def ref_keyed_r10.B : List Nat:=[0,0,0,0,8,30,0,64,255,511]
theorem ref_keyed_r10.tab : rtab .any (opsOf Tryd.f20 10) = ref_keyed_r10.T:=by kernel_rfl
theorem ref_keyed_r10.bits : waitsOk ref_keyed_r10.T.2 ref_keyed_r10.B = true:=by kernel_rfl
def ref_keyed_r10.l0 : Array Bool:=bl 10 1
def ref_keyed_r10.l1 : Array Bool:=bl 10 3
def ref_keyed_r10.l2 : Array Bool:=bl 10 7
def ref_keyed_r10.l3 : Array Bool:=bl 10 15
def ref_keyed_r10.l4 : Array Bool:=bl 10 31
def ref_keyed_r10.l5 : Array Bool:=bl 10 63
def ref_keyed_r10.l6 : Array Bool:=bl 10 127
def ref_keyed_r10.l7 : Array Bool:=bl 10 255
def ref_keyed_r10.l8 : Array Bool:=bl 10 511
def ref_keyed_r10.l9 : Array Bool:=bl 10 1023
set_option maxRecDepth 100000 in
set_option maxHeartbeats 16000000 in
theorem ref_Keyed.calls (A B : Option Addr) (ca cb : Nat) (key p : List Int) (w : World) (hK : Kd.C (Kd.int .u8) w A key.length key) (hka : key.length ≤ ca) (hP : Kd.C (Kd.int .u8) w B p.length p) (hpb : p.length ≤ cb)
 (hk1 : key.length ≤ 10000000) (hp1 : p.length ≤ 10000000) (hkb : ∀ c ∈ key,0 ≤ c ∧ c < 256) (hpB : ∀ c ∈ p,0 ≤ c ∧ c < 256) :
 Calls Tryd.prog 20 #[.slice A key.length ca,.slice B p.length cb] w fun e w'=>e = .returned (.agg ((keyedL key p).map (Value.int .u8)).toArray) ∧ Below w.heap.size w w':=by
 obtain ⟨Z,hZ⟩ : ∃ Z,Z = zero32.map (Value.int .u8):=⟨_,rfl⟩
 have hZl : Z.length = 32:=by rw [hZ];rfl
 obtain ⟨Z8,hZ8⟩ : ∃ Z,Z = (List.replicate 8 (0 : Int)).map (Value.int .u64):=⟨_,rfl⟩
 have hZ8l : Z8.length = 8:=by rw [hZ8];rfl
 have HAL : Aside0 (∀ w,(zeroValue 31).run Tryd.prog w = .ok (.agg Z.toArray) w):=⟨fun w=>by rw [hZ];exact zero_run info_a32 w⟩;have HAL8 : Aside0 (∀ w,(zeroValue 62).run Tryd.prog w = .ok (.agg Z8.toArray) w):=⟨fun w=>by rw [hZ8];exact zero_run info_a8 w⟩;obtain ⟨k,hk⟩ : ∃ k,k = key.take 64:=⟨_,rfl⟩;obtain ⟨m,hmin⟩ : ∃ m : Int,min (64 : Int) (key.length : Int) = m:=⟨_,rfl⟩
 have hkl : k.length = min 64 key.length:=by rw [hk,List.length_take]
 have hmt : m.toNat = k.length:=by omega
 have hm0 : 0 ≤ m:=by omega
 have hmc : m ≤ (ca : Int):=by omega
 have hkC : Kd.C (Kd.int .u8) w A k.length k:=by
  by_cases h64 : 64 ≤ key.length
  ·rw [hk];exact Kd.C_take hK h64
  rw [hk,List.take_of_length_le (by omega)];exact hK
 have hk64 : k.length ≤ 64:=by omega
 have hkB : ∀ c ∈ k,0 ≤ c ∧ c < 256:=by rw [hk];exact fun c hc=>hkb c (List.mem_of_mem_take hc)
 obtain ⟨L8,hL8⟩ : ∃ L,L = beginV.map (Value.int .u64):=⟨_,rfl⟩
 have hL8l : L8.length = 8:=by rw [hL8];rfl
 have hL8o : ∀ v ∈ L8,v.oneCell' = true:=by rw [hL8];exact one_of_map _
 have HBE : Aside0 (∀ w,Calls Tryd.prog 31 #[] w fun e w'=>e = .returned (.agg L8.toArray) ∧ Below w.heap.size w w'):=⟨fun w=>by rw [hL8];exact ref_begin.calls w⟩;have HBH : Aside0 (∀ w,(Instr.build 31 #[]).run Tryd.prog w = .ok (.agg Z.toArray) w):=⟨fun w=>by rw [hZ];exact run_build w _ _ _ built_hash⟩;have HL8:=am hL8;have HL8l:=am hL8l;have HL8o:=am hL8o;have HZ:=am hZ;have HZl:=am hZl;have HZ8l:=am hZ8l;have HKC:=am hkC;have HP:=am hP;have Hpb:=am hpb;have Hk:=am hk;have Hk64:=am hk64;have HkB:=am hkB;have HpB:=am hpB;have Hp1:=am hp1;have HKE : Aside0 (keyedL key p = digestL (blocksR (keyBlock k ++ p).length (keyBlock k ++ p) 0 (beginR k.length))):=⟨by rw [← keyed_same key p hkb hpB,hk];rfl⟩;clear hZ hZl hZ8 hZ8l hK hP hk hkC hL8 hL8l hL8o hkB hkb hpB hp1 hkl hpb;go_enter Tryd.func20,Tryd.ntmps20
 go_upto_region 1 with ((with_reducible refine gate_dst (N:=4) rfl ?_);refine box_event ?hg (N:=4) ?hd (cs:=Z.toArray) (t:=31) ?hr ?_;(case hd=>rfl);(case hg=>rfl);(case hr=>first | (simp [execOp,Instr.alloc,HAL.out,newVar,newRow,go_sem];done) | (simp [execOp,Instr.alloc,HAL.out,newVar,newRow,go_sem];rfl));intro g4 hg_ w1 hbox_ hb_;have G4:=am hg_;have T4:=am (there_box hbox_);have B1:=am hb_;have LT4:=am (blk_lt hbox_);clear hg_ hbox_ hb_)
 go_upto_region 3 with (fail)
 have HK1:=am (Kd.C_below HKC.out B1.out);have HP1:=am (Kd.C_below HP.out B1.out)
 by_cases hk0 : k.length = 0
 all_goals (
  first
   | (
     have hk0_ : k.length = 0:=hk0;have d0 : decide ((k.length : Int) > 0) = false:=decide_eq_false (by omega);have HK0:=am hk0
     go_upto_region 5 with (fail)
     obtain ⟨w4,hw4⟩ : ∃ w4,w4 = w1:=⟨_,rfl⟩;rw [← hw4];obtain ⟨v5,hv5⟩ : ∃ v : Value,v = .slice none 0 0:=⟨_,rfl⟩;have HA5 : Aside0 (Kd.R (Kd.int .u8) 5 w4 w1.heap.size (fun _=>True) v5 (keyBlock k)):=⟨by rw [hv5,hw4];unfold keyBlock;rw [if_pos HK0.out];exact R_nil _ _⟩;have HB5 : Aside0 (Below w1.heap.size w1 w4):=⟨by rw [hw4];exact Below.refl _ _⟩;simp only [← hv5]
     clear hw4 hv5 d0 hk0)
   | (
     have hk0_ : ¬ k.length = 0:=hk0;have d0 : decide ((k.length : Int) > 0) = true:=decide_eq_true (by omega)
     go_wp2_with ((with_reducible refine gate_builtin (b:= .append) (xs:=#[.tmp 20,.tmp 21]) rfl ?_);at_builtin;refine Aside0.out ?_)
     refine am ?_;refine Kd.R_append_row (Value.int .u8) (0 : Int) (h1:=fun _=>rfl) (w0:=w1) w1.heap.size rfl (.tmp 20) (.tmp 21) 26 5 (.int .u8 0) 1 rfl Tryd.underlying26 info_u8z rfl (by decide) _ _ k A k.length ca (fun _=>True) rfl rfl (fun _ _=>trivial) (R_nil w1 w1.heap.size) HK1.out (Below.refl _ _) (Nat.le_refl _) (by have:=Hk64.out;simp;omega) ?_;intro v2 w2 hR_ hb_ _ _;rw [List.nil_append] at hR_;have HR2:=am hR_;have B2:=am hb_;clear hR_ hb_
     go_wp2_with ((with_reducible refine gate_builtin (b:= .append) (xs:=#[.tmp 22,.tmp 25]) rfl ?_);at_builtin;refine Aside0.out ?_)
     refine am ?_;refine zeros_event (w0:=w1) w1.heap.size rfl (.tmp 22) (.tmp 25) 26 3 5 rfl Tryd.underlying26 Tryd.underlying3 info_u8z v2 k (128 - k.length) _ ?hmi (by have:=Hk64.out;omega) rfl rfl HR2.out B2.out B2.out.size (by have:=Hk64.out;omega) ?_
     case hmi=>have:=Hk64.out;first | omega | (unfold wrap64;omega) | (rw [show (128 : Int) - (k.length : Int) = ((128 - k.length : Nat) : Int) by omega];first | rfl | (unfold wrap64;omega))
     intro v5 w4 hR_ hb_;have HA5 : Aside0 (Kd.R (Kd.int .u8) 5 w4 w1.heap.size (fun _=>True) v5 (keyBlock k)):=⟨by unfold keyBlock;rw [if_neg hk0];exact hR_⟩;have HB5:=am hb_;clear hR_ hb_ d0 hk0 hk0_ HR2 B2
     go_upto_region 5 with (fail)))
 all_goals (
  obtain ⟨all,hall⟩ : ∃ a,a = keyBlock k ++ p:=⟨_,rfl⟩
  have hkbl : (keyBlock k).length ≤ 128:=by unfold keyBlock;have:=Hk64.out;split <;> simp <;> omega
  have hallB : ∀ c ∈ all,0 ≤ c ∧ c < 256:=by
   intro c hc;rw [hall] at hc
   rcases List.mem_append.1 hc with h | h
   ·exact keyBlock_bytes k HkB.out c h
   ·exact HpB.out c h
  have halll : all.length ≤ 10000128:=by rw [hall,List.length_append];have:=Hp1.out;omega
  have Hall:=am hall;have HallB:=am hallB;have Halll:=am halll;have Hkbl:=am hkbl;have HP4:=am (Kd.C_below HP1.out HB5.out);clear hall hallB halll hkbl
  go_wp2_with ((with_reducible refine gate_builtin (b:= .append) (xs:=#[.tmp 27,.tmp 28]) rfl ?_);at_builtin;refine Aside0.out ?_)
  refine am ?_;refine Kd.R_append_row (Value.int .u8) (0 : Int) (h1:=fun _=>rfl) (w0:=w1) w1.heap.size rfl (.tmp 27) (.tmp 28) 26 5 (.int .u8 0) 1 rfl Tryd.underlying26 info_u8z rfl (by decide) _ _ p B p.length cb (fun _=>True) rfl rfl (fun _ _=>trivial) HA5.out HP4.out HB5.out HB5.out.size (by have:=Hp1.out;have:=Hkbl.out;omega) ?_;intro v7 w6 hR_ hb_ _ _;rw [← Hall.out] at hR_;obtain ⟨A7,c7,hv7_,hc7_,hC7_⟩:=Kd.R_reads hR_
  have h7lt : ∀ ad,A7 = some ad → 0 < all.length → ad.block < w6.heap.size:=fun ad e hn=>by subst e;exact Kd.C_lt hC7_ hn (by decide)
  subst hv7_;have HC7:=am hC7_;have H7lt:=am h7lt;have B16:=am hb_;have hcc7:=hc7_;clear hR_ hb_ hC7_ h7lt hc7_ HA5 HB5
  go_upto_region 7 with (first
   | (go_at_call 31;with_reducible refine (HBE.out _).mono ?_;rintro e w7a ⟨rfl,hb_⟩;have B7a:=am hb_;clear hb_)
   | ((with_reducible refine gate_dst (N:=7) rfl ?_);refine box_event ?hg (N:=7) ?hd (cs:=Z8.toArray) (t:=62) ?hr ?_;(case hd=>rfl);(case hg=>rfl);(case hr=>first | (simp [execOp,Instr.alloc,HAL8.out,newVar,newRow,go_sem];done) | (simp [execOp,Instr.alloc,HAL8.out,newVar,newRow,go_sem];rfl));intro g7 hg_ w7 hbox_ hb_;have G7:=am hg_;have T7:=am (there_box hbox_);have B7:=am hb_;have LT7:=am (blk_lt hbox_);clear hg_ hbox_ hb_)
   | ((with_reducible refine gate_store (t:=62) (p:=7) rfl ?_);refine wpList_store_mid rfl 62 _ _ rfl g7 0 L8.toArray rfl rfl (by rw [List.size_toArray,HL8l.out,← HZ8l.out];exact T7.out) (by rw [List.size_toArray,HL8l.out];exact size_of info_a8) (all_oneCell_toArray HL8o.out) ?_))
  have B67:=below_step B7a.out B7.out
  have g76 : w6.heap.size ≤ g7:=by have:=G7.out;have:=B7a.out.size;omega
  have n0_:=World.rangeAt_setCells_same w7 g7 0 L8 (by rw [HL8l.out,← HZ8l.out];exact T7.out);have n1_:=below_setCells g7 g76 L8 0 w7 B67;have n2_:=World.there_setCells T7.out g7 0 L8;generalize World.setCells _ _ _ _ = w8 at n0_ n1_ n2_ ⊢;rw [HZ8l.out] at n2_;rw [HL8.out] at n0_;have aS : Arr w8 g7 beginV:=⟨n0_,n2_⟩;obtain ⟨v_p,hv_p⟩ : ∃ v,v = beginV.getD 0 0:=⟨_,rfl⟩;have s0:=aS.cell 0 (by decide);have s1:=aS.frozen 0 (by decide);rw [← hv_p] at s0;obtain ⟨sv,hsv⟩ : ∃ v,shl .u64 (wr (k.length : Int)) 8 = v:=⟨_,rfl⟩;have hsv1 : IntKind.u64.wrap (IntKind.u64.wrap (k.length : Int) * 2 ^ 8) = sv:=hsv;have hsv2 : IntKind.u64.wrap (IntKind.u64.wrap (k.length : Int) * 256) = sv:=hsv
  first
   | (have hsv3 : IntKind.u64.wrap (IntKind.u64.wrap 0 * 256) = sv:=by
       rw [← hsv2,HK0.out];rfl)
   | skip
  have Hv_p:=am hv_p;have Hsv:=am hsv;have AS:=am aS;have B18:=am (below_step B16.out n1_);have HC8:=am (Kd.C_below HC7.out n1_);have HF8 : Aside0 (∀ ad,A7 = some ad → 0 < all.length → ad.block ≠ g7):=⟨fun ad e hn=>by have:=H7lt.out ad e hn;omega⟩;have LT48 : Aside0 (g4 < w8.heap.size):=⟨Nat.lt_of_lt_of_le LT4.out B18.out.size⟩;have LT4c:=am (there_of_below T4.out B18.out LT4.out);have NE4 : Aside0 (g4 ≠ g7):=⟨by have:=LT4.out;have:=B16.out.size;omega⟩;have G7n : Aside0 (w.heap.size ≤ g7):=⟨by have:=B1.out.size;have:=B16.out.size;omega⟩;clear n0_ n1_ n2_ aS B67 g76 hv_p hsv HC7 H7lt B16 B7a B7
  go_upto_region 8 with (fail)
  obtain ⟨x0,hx0_⟩ : ∃ x0,x0 = Go.bits .xor .u64 (Go.bits .xor .u64 v_p 16842784) sv:=⟨_,rfl⟩
  first
   | (rw [← hx0_])
   | (have hz_ : x0 = Go.bits .xor .u64 (Go.bits .xor .u64 v_p 16842784) 0:=by
       rw [hx0_,← Hsv.out,HK0.out];rfl
      rw [← hz_]
      clear hz_)
   | (have hz_ : x0 = Go.bits .xor .u64 (Go.bits .xor .u64 v_p 16842784) ((k.length : Int) * 256):=by
       have h64:=Hk64.out
       have hsk : (k.length : Int) * 256 = sv:=by rw [← hsv2,IntKind.wrap_u64,IntKind.wrap_u64];omega
       rw [hx0_,hsk]
      rw [← hz_]
      clear hz_)
  have n0_:=AS.out.set 0 (by decide) x0;have n1_:=grown_set (World.grownBy.refl w8 (some g7)) 0 (.int .u64 x0);generalize World.setCell _ _ _ = w9 at n0_ n1_ ⊢;obtain ⟨H0,hH0⟩ : ∃ H,H = beginR k.length:=⟨_,rfl⟩
  have e0 : beginV.set 0 x0 = H0:=by rw [hH0,hx0_,Hv_p.out,← Hsv.out];rfl
  rw [e0] at n0_;have A9:=am n0_;have HH0:=am hH0;have H0l : Aside0 (H0.length = 8):=⟨by rw [hH0];exact beginR_length _⟩;have HC9:=am (C_grown HC8.out n1_ HF8.out);have T9:=am (there_of_block LT4c.out (n1_.block g4 LT48.out (by have:=NE4.out;simpa using this)));have B9:=am ((below_step B1.out B18.out).grown n1_ (below_step B1.out B18.out).size (fun j hj=>by cases hj;exact G7n.out));have LT49 : Aside0 (g4 < w9.heap.size):=⟨Nat.lt_of_lt_of_le LT48.out n1_.size⟩;clear n0_ n1_ s0 s1 e0 hH0 hx0_ hsv1 hsv2 B18 HC8 LT48 LT4c
  go_wp2
  go_loopw [8] (fun i wr=>∃ x : Int,i = .int .i64 x ∧ (0 ≤ x ∧ x ≤ (all.length : Int)) ∧
   Aside0 (∃ H,H.length = 8 ∧ Arr wr g7 H ∧ blocksR (all.drop x.toNat).length (all.drop x.toNat) x.toNat H = blocksR all.length all 0 H0) ∧ Aside0 (w9.grownBy wr (some g7)))
   (fun i _=>all.length - (intOf i).toNat)
  case atStart=>exact ⟨0,rfl,⟨by omega,by omega⟩,⟨H0,H0l.out,A9.out,rfl⟩,⟨World.grownBy.refl _ _⟩⟩
  case round=>
   obtain ⟨x,rfl,⟨hx0,hx1⟩,HV,HG⟩:=hrel;obtain ⟨H,hHl,hHA,hHe⟩:=HV.out;have hal:=Halll.out;obtain ⟨r,hr⟩ : ∃ r,r = all.drop x.toNat:=⟨_,rfl⟩;rw [← hr] at hHe
   have hrl : r.length = all.length - x.toNat:=by rw [hr,List.length_drop]
   obtain ⟨s,hs⟩ : ∃ s,wrap64 ((all.length : Int) - x) = s:=⟨_,rfl⟩
   have hs' : s = (all.length : Int) - x:=by rw [← hs];unfold wrap64;omega
   obtain ⟨i8,hi8,hsz8⟩:=info_u8s;have hrC:=C_grown HC9.out HG.out HF8.out
   by_cases hlt : s > 128
   ·have d0 : decide (s > 128) = true:=decide_eq_true hlt;obtain ⟨y,hy⟩ : ∃ y,wrap64 (x + 128) = y:=⟨_,rfl⟩
    have hy' : y = x + 128:=by rw [← hy];unfold wrap64;omega
    obtain ⟨A2,hA2⟩ : ∃ A2,A2 = if c7 = x.toNat then A7 else A7.map (·.add x.toNat):=⟨_,rfl⟩;obtain ⟨b,hb⟩ : ∃ b,b = (all.take y.toNat).drop x.toNat:=⟨_,rfl⟩
    have hbr : b = r.take 128:=by rw [hb,hr,List.drop_take];congr 1;omega
    have hbl : b.length = 128:=by rw [hbr,List.length_take];omega
    have hcut : ∀ W : World,(Instr.slice 26 (.slice A7 all.length c7) (some (.int .i64 x)) (some (.int .i64 y)) none).run Tryd.prog W = .ok (.slice A2 128 (c7 - x.toNat)) W:=by
     have:=cut_mid (P:=Tryd.prog) 26 5 .i64 .i64 Tryd.underlying26 hi8 1 hsz8 A7 all.length c7 x y hx0 (by omega) (by omega) hcc7;rw [show y.toNat - x.toNat = 128 by omega] at this;rw [hA2]
     simpa using this
    have hC2 : Kd.C (Kd.int .u8) wr A2 b.length b:=by
     have:=Kd.C_mid (k:=Kd.int .u8) (lo:=x.toNat) (hi:=y.toNat) hrC (by omega) (by omega) hcc7;rw [hA2,hb];rw [show (Kd.int IntKind.u8).sz = 1 from rfl,Nat.mul_one] at this;exact this
    obtain ⟨LH,hLH⟩ : ∃ L,L = H.map (Value.int .u64):=⟨_,rfl⟩;obtain ⟨HN,hHN⟩ : ∃ HN,HN = blockR H b y false:=⟨_,rfl⟩;obtain ⟨LN,hLN⟩ : ∃ L,L = HN.map (Value.int .u64):=⟨_,rfl⟩;have hbk:=ref_block.calls H b A2 (c7 - x.toNat) y false wr.drew hHl hbl (Kd.C_drew hC2) (fun c hc=>HallB.out c (by rw [hb] at hc;exact List.mem_of_mem_take (List.mem_of_mem_drop hc)));rw [hbl,← hHN,← hLN,← hLH,← hy] at hbk;have hcut':=hcut;rw [← hy] at hcut';have HBK:=am hbk
    have hHNl : HN.length = 8:=by rw [hHN,blockR_length,hHl]
    have hrl2 : (r.drop 128) = all.drop y.toNat:=by rw [hr,List.drop_drop];congr 1;omega
    have HE2 : Aside0 (blocksR (all.drop y.toNat).length (all.drop y.toNat) y.toNat HN = blocksR all.length all 0 H0):=⟨by
     rw [← hHe,blocksR_step r H x.toNat (by omega),hrl2,hHN,hbr,show x.toNat + 128 = y.toNat by omega,Int.toNat_of_nonneg (by omega)]⟩
    have HLHl : Aside0 (LH.length = 8):=⟨by rw [hLH,List.length_map,hHl]⟩;have HI8 : Aside0 ((Tryd.prog.info? 62).map (·.size) = some LH.length):=⟨by rw [HLHl.out];exact size_of info_a8⟩;have HLNl : Aside0 (LN.length = 8):=⟨by rw [hLN,List.length_map,hHNl]⟩;have HLNo : Aside0 (∀ v ∈ LN,v.oneCell' = true):=⟨by rw [hLN];exact one_of_map _⟩;have hrg:=hHA.range;rw [← hLH] at hrg;have HRG:=am ((World.rangeAt_drew _ _ _ _).2 hrg);have HTH : Aside0 (wr.there g7 0 8):=⟨by have:=hHA.there;rwa [hHl] at this⟩;have HLT7 : Aside0 (g7 < wr.heap.size):=⟨hHA.lt (by omega)⟩;have HLN:=am hLN;have HHNl:=am hHNl
    have hyb : 0 ≤ y ∧ y ≤ (all.length : Int) ∧ all.length - y.toNat < all.length - x.toNat:=by omega
    have HYB:=am hyb;clear hbk hC2 hrC hb hbr hbl hrl hrl2 hHN hLN hLH hHNl hHl hHA hHe HV hr hrg hi8 hsz8 hA2 hs' hy' hyb hal
    go_upto_region 10 with (fail)
    refine start_ (n:=10) (S:=fun w'=>w'.rangeAt g7 0 LH) (ds:=[9]) (bl 10 0) (by kernel_rfl) rfl rfl HRG.out (fun hHeld=>?_);refine with_tabW ref_keyed_r10.tab ref_keyed_r10.bits (fun HT_ HW_=>?_);refine tk HT_ HW_ hHeld 0 (some 45) ref_keyed_r10.l0 (hr:=by intro w' hs_;have s0:=hs_;refine load_run (ty:=62) (y:= .tmp 7) (g:=g7) (L:=LH) ?_ ?_ s0 Tryd.underlying62 rfl HI8.out <;> rfl) (h:=?_);refine p_ HT_ 1 (some 46) ref_keyed_r10.l1 ?_;refine p_ HT_ 2 (some 47) ref_keyed_r10.l2 ?_;refine p_ HT_ 3 (some 48) ref_keyed_r10.l3 ?_;refine p_ HT_ 4 (some 49) ref_keyed_r10.l4 ?_;refine p_ HT_ 5 (some 50) ref_keyed_r10.l5 ?_;refine p_ HT_ 6 (some 51) ref_keyed_r10.l6 ?_;refine p_ HT_ 7 (some 52) ref_keyed_r10.l7 ?_;refine o_ HT_ 8 (some 53) ref_keyed_r10.l8 fun K hK=>?_;refine gs Tryd.func32 #[.agg LH.toArray,.slice A2 128 (c7 - x.toNat),.int .i64 (wrap64 (x + 128)),.bool false] ?_;refine (HBK.out).mono ?_;rintro e wn ⟨rfl,hb_⟩;have HBN:=am hb_;have HTN : Aside0 (wn.there g7 0 8):=⟨there_of_below (w:=wr.drew) ((World.there_drew _ _ _ _).2 HTH.out) hb_ HLT7.out⟩;clear hb_;refine ⟨_,rfl,?_⟩;refine hK.out _ _ (rangeAt_below hHeld HBN.out HLT7.out) (fun hHeld=>?_);clear hK K;refine nm (some 53) ?_;refine last_ (i:=9) (N:=none) ref_keyed_r10.l9 rfl rfl (one_of HT_.out (by kernel_rfl)) (by decide) (fun K hK=>?_);clear hHeld;refine skip_ (w1:=wn.setCells g7 0 LN) (by rfl) rfl ?_ ?_
    ·exact store_run (x:= .tmp 7) (y:= .tmp 53) rfl rfl rfl (by rw [HLNl.out];exact HTN.out) (by rw [HLNl.out];exact size_of info_a8) HLNo.out
    refine hK.out _ _ ?_;clear hK K;refine done_ (done_of HT_.out (by kernel_rfl)) ?_;clear HT_ HW_;have n0_:=World.rangeAt_setCells_same wn g7 0 LN (by rw [HLNl.out];exact HTN.out);have n1_:=grown_setCells (g:=g7) 0 LN (grown_below (grown_drew HG.out) HBN.out);have n2_:=World.there_setCells HTN.out g7 0 LN;generalize World.setCells _ _ _ _ = wq at n0_ n1_ n2_ ⊢;rw [HLN.out] at n0_;have HAQ : Aside0 (Arr wq g7 HN):=⟨n0_,by rw [HHNl.out];exact n2_⟩;have HGQ:=am n1_;clear n0_ n1_ n2_
    go_wp2
    exact ⟨⟨y,by rw [hy],⟨HYB.out.1,HYB.out.2.1⟩,⟨HN,HHNl.out,HAQ.out,HE2.out⟩,HGQ⟩,by simp only [intOf];rw [hy];exact HYB.out.2.2⟩
   ·have d0 : decide (s > 128) = false:=decide_eq_false hlt;obtain ⟨A2,hA2⟩ : ∃ A2,A2 = if c7 = x.toNat then A7 else A7.map (·.add x.toNat):=⟨_,rfl⟩
    have hcut : ∀ W : World,(Instr.slice 26 (.slice A7 all.length c7) (some (.int .i64 x)) none none).run Tryd.prog W = .ok (.slice A2 r.length (c7 - x.toNat)) W:=by
     have:=cut_from (P:=Tryd.prog) 26 5 .i64 Tryd.underlying26 hi8 1 hsz8 A7 all.length c7 x hx0 (by omega);rw [← hrl] at this;rw [hA2]
     simpa using this
    have hC2 : Kd.C (Kd.int .u8) wr A2 r.length r:=by
     have:=Kd.C_drop (k:=Kd.int .u8) (m:=x.toNat) hrC (by omega) hcc7;rw [hA2,hr];rw [show (Kd.int IntKind.u8).sz = 1 from rfl,Nat.mul_one] at this;exact this
    obtain ⟨wA,hwA⟩ : ∃ wA,wA = wr:=⟨_,rfl⟩;subst hwA;have HC2:=am hC2;obtain ⟨r1,hr1⟩ : ∃ r1,r1 = r ++ List.replicate (128 - r.length) 0:=⟨_,rfl⟩
    have hr1l : r1.length = 128:=by rw [hr1,List.length_append,List.length_replicate];omega
    have hr1B : ∀ c ∈ r1,0 ≤ c ∧ c < 256:=fun c hc=>by
     rw [hr1] at hc
     rcases List.mem_append.1 hc with h | h
     ·exact HallB.out c (by rw [hr] at h;exact List.mem_of_mem_drop h)
     ·rw [List.eq_of_mem_replicate h];omega
    obtain ⟨HN,hHN⟩ : ∃ HN,HN = blockR H r1 (all.length : Int) true:=⟨_,rfl⟩
    have HE2 : Aside0 (HN = blocksR all.length all 0 H0):=⟨by
     rw [← hHe,blocksR_end r H x.toNat (by omega),hHN,hr1,show x.toNat + r.length = all.length by omega]⟩
    obtain ⟨LH,hLH⟩ : ∃ L,L = H.map (Value.int .u64):=⟨_,rfl⟩;obtain ⟨LN,hLN⟩ : ∃ L,L = HN.map (Value.int .u64):=⟨_,rfl⟩
    have HBK : Aside0 (∀ (W : World) (A1 : Option Addr) (c1 : Nat),Kd.C (Kd.int .u8) W A1 r1.length r1 → Calls Tryd.prog 32 #[.agg LH.toArray,.slice A1 r1.length c1,.int .i64 (all.length : Int),.bool true] W fun e w'=>e = .returned (.agg LN.toArray) ∧ Below W.heap.size W w'):=
     ⟨fun W A1 c1 hC=>by rw [hLH,hLN,hHN];exact ref_block.calls H r1 A1 c1 (all.length : Int) true W hHl hr1l hC hr1B⟩
    have hHNl : HN.length = 8:=by rw [hHN,blockR_length,hHl]
    have HLHl : Aside0 (LH.length = 8):=⟨by rw [hLH,List.length_map,hHl]⟩;have HLNl : Aside0 (LN.length = 8):=⟨by rw [hLN,List.length_map,hHNl]⟩;have HLNo : Aside0 (∀ v ∈ LN,v.oneCell' = true):=⟨by rw [hLN];exact one_of_map _⟩;have hrg:=hHA.range;rw [← hLH] at hrg;have HRG:=am hrg;have HTH : Aside0 (wA.there g7 0 8):=⟨by have:=hHA.there;rwa [hHl] at this⟩;have HLT7 : Aside0 (g7 < wA.heap.size):=⟨hHA.lt (by omega)⟩;have HLN:=am hLN;have HHNl:=am hHNl;have HR1:=am hr1;have HRL : Aside0 (r.length ≤ 128):=⟨by omega⟩;have H9g:=am (below_grown (Below.refl wA.heap.size wA) (some g7));clear hrC hr hHN hLN hLH hHNl hHl hHA hHe HV hrg hi8 hsz8 hA2 hs' hr1 hr1l hr1B hal hrl hC2 hlt
    go_wp2_with (first
     | ((with_reducible refine gate_dst (N:=56) rfl ?_);refine slice_event ?hg (N:=56) ?hd (cs:=#[]) (t:=5) (n:=0) (c:=0) ?hr ?_;(case hd=>rfl);(case hg=>rfl);(case hr=>first | (go_simp;done) | (go_simp;rfl));intro g56 hg_ wB hbox_ hb_;have G56:=am hg_;have BX:=am hbox_;have HBB:=am hb_;clear hg_ hbox_ hb_)
     | ((with_reducible refine gate_builtin (b:= .append) (xs:=#[.tmp 56,.tmp 59]) rfl ?_);at_builtin;refine Aside0.out ?_))
    refine am ?_;refine Kd.R_append_row (Value.int .u8) (0 : Int) (h1:=fun _=>rfl) (w0:=wA) wA.heap.size rfl (.tmp 56) (.tmp 59) 26 5 (.int .u8 0) 1 rfl Tryd.underlying26 info_u8z rfl (by decide) _ _ r A2 r.length _ (fun _=>True) rfl rfl (fun _ _=>trivial) (R_empty BX.out (by have:=G56.out;omega)) (Kd.C_below HC2.out HBB.out) HBB.out HBB.out.size (by have:=HRL.out;simp;omega) ?_;intro vC wC hR_ hb_ _ _;rw [List.nil_append] at hR_;obtain ⟨AC,cC,hvC_,hcC_,hCC_⟩:=Kd.R_reads hR_;subst hvC_;have HRC:=am hR_;have HBC:=am hb_;have HcC:=am hcC_;clear hR_ hb_ hcC_ hCC_ BX HBB HC2
    go_wp2_with ((with_reducible refine gate_builtin (b:= .append) (xs:=#[.tmp 61,.tmp 64]) rfl ?_);at_builtin;refine Aside0.out ?_)
    refine am ?_;refine zeros_any (w0:=wA) wA.heap.size rfl (.tmp 61) (.tmp 64) 26 3 5 rfl Tryd.underlying26 Tryd.underlying3 info_u8z AC cC r (128 - r.length) _ ?hmi HcC.out rfl rfl HRC.out HBC.out HBC.out.size (by have:=HRL.out;omega) ?_
    case hmi=>have:=HRL.out;first | omega | (unfold wrap64;omega) | (rw [show (128 : Int) - (r.length : Int) = ((128 - r.length : Nat) : Int) by omega];first | rfl | (unfold wrap64;omega))
    intro vD wD hR_ hb_;rw [← HR1.out] at hR_;obtain ⟨AD,cD,hvD_,hcD_,hCD_⟩:=Kd.R_reads hR_;subst hvD_;have HCD:=am hCD_;have HBD:=am hb_;have HRGD:=am (rangeAt_below HRG.out hb_ HLT7.out);have HBK2:=am (HBK.out wD AD cD hCD_);clear hR_ hb_ hcD_ hCD_
    go_upto_region 15 with (first
     | ((with_reducible refine gate_dst (N:=66) rfl ?_);refine wpList_load_mid rfl 62 _ rfl g7 0 rfl LH _ HRGD.out Tryd.underlying62 rfl (by rw [HLHl.out];exact size_of info_a8) ?_)
     | (go_at_call 32;with_reducible refine HBK2.out.mono ?_;rintro e w11 ⟨rfl,hb_⟩;have HB11:=am (below_step HBD.out hb_);have HTN:=am (there_of_below HTH.out HB11.out HLT7.out);clear hb_)
     | ((with_reducible refine gate_store (t:=62) (p:=7) rfl ?_);refine wpList_store_mid rfl 62 _ _ rfl g7 0 LN.toArray rfl rfl (by rw [List.size_toArray,HLNl.out];exact HTN.out) (by rw [List.size_toArray,HLNl.out];exact size_of info_a8) (all_oneCell_toArray HLNo.out) ?_))
    have n0_:=World.rangeAt_setCells_same w11 g7 0 LN (by rw [HLNl.out];exact HTN.out);have n1_:=grown_setCells (g:=g7) 0 LN (grown_below HG.out HB11.out);have n2_:=World.there_setCells HTN.out g7 0 LN;generalize World.setCells _ _ _ _ = w9z at n0_ n1_ n2_ ⊢;rw [HLN.out] at n0_;obtain ⟨HF,hHF⟩ : ∃ HF,HF = HN:=⟨_,rfl⟩;have HA9 : Aside0 (Arr w9z g7 HF):=⟨by rw [hHF];exact n0_,by rw [hHF,HHNl.out];exact n2_⟩;have HHl2 : Aside0 (HF.length = 8):=⟨by rw [hHF];exact HHNl.out⟩;have HE3 : Aside0 (HF = blocksR all.length all 0 H0):=⟨by rw [hHF];exact HE2.out⟩;have HG9:=am n1_;clear n0_ n1_ n2_ hHF HBK HBK2 HE2 HRGD HRG HTN HTH HB11 HBD HCD HBC HRC HG HR1
    go_upto_region 16 with (first
     | ((with_reducible refine gate_dst (N:=71) rfl ?_);refine Kd.event_run (v:= .agg Z.toArray) (w1:=w9z) rfl (build_run0 rfl (HBH.out _)) ?_)
     | ((with_reducible refine gate_dst (N:=10) rfl ?_);refine box_event ?hg (N:=10) ?hd (cs:=Z.toArray) (t:=31) ?hr ?_;(case hd=>rfl);(case hg=>rfl);(case hr=>first | (simp [execOp,Instr.alloc,HAL.out,newVar,newRow,go_sem];done) | (simp [execOp,Instr.alloc,HAL.out,newVar,newRow,go_sem];rfl));intro g10 hg_ w10 hbox_ hb_;have G10:=am hg_;have T10:=am (there_box hbox_);have B10:=am hb_;have LT10:=am (blk_lt hbox_);clear hg_ hbox_ hb_)
     | ((with_reducible refine gate_store (t:=31) (p:=10) rfl ?_);refine wpList_store_mid rfl 31 _ _ rfl g10 0 Z.toArray rfl rfl (by rw [List.size_toArray];exact T10.out) (by rw [List.size_toArray,HZl.out];exact size_of info_a32) (all_oneCell_toArray (by rw [HZ.out];exact one_of_map _)) ?_))
    have n0_:=World.rangeAt_setCells_same w10 g10 0 Z T10.out;have n1_:=below_setCells g10 (by have:=G10.out;omega) Z 0 w10 B10.out;have n2_:=World.there_setCells T10.out g10 0 Z;generalize World.setCells _ _ _ _ = w11 at n0_ n1_ n2_ ⊢;rw [HZl.out] at n2_;have AB0 : ArrB w11 g10 (digestTo HF 0):=⟨by rw [digestTo_zero,← HZ.out];exact n0_,by rw [digestTo_length];exact n2_⟩;have HAB0:=am AB0;have A11:=am (HA9.out.below n1_ (HA9.out.lt (by rw [HHl2.out];decide)));have lt49 : g4 < w9z.heap.size:=Nat.lt_of_lt_of_le LT49.out HG9.out.size;have t9:=there_of_block T9.out (HG9.out.block g4 LT49.out (by have:=NE4.out;simpa using this));have T11:=am (there_of_below t9 n1_ lt49)
    have ne74 : g10 ≠ g4:=by have:=G10.out;omega
    have ne7S : g10 ≠ g7:=by have:=G10.out;have:=HA9.out.lt (by rw [HHl2.out];decide);omega
    have NE74:=am ne74;have NE7S:=am ne7S;have LT411 : Aside0 (g4 < w11.heap.size):=⟨Nat.lt_of_lt_of_le lt49 n1_.size⟩;have B11:=am (below_step (B9.out.grown HG9.out B9.out.size (fun j hj=>by cases hj;exact G7n.out)) n1_);have G10n : Aside0 (w.heap.size ≤ g10):=⟨by have:=G10.out;have:=B9.out.size;have:=HG9.out.size;omega⟩;clear n0_ n1_ n2_ AB0 lt49 t9 ne74 ne7S
    go_wp2
    go_loopw [11] (fun i wr=>∃ x : Int,i = .int .i64 x ∧ (0 ≤ x ∧ x ≤ 32) ∧ Aside0 (ArrB wr g10 (digestTo HF x.toNat)) ∧ Aside0 (w11.grownBy wr (some g10)))
     (fun i _=>32 - (intOf i).toNat)
    case atStart=>exact ⟨0,rfl,⟨by omega,by omega⟩,HAB0,⟨World.grownBy.refl _ _⟩⟩
    case round=>
    obtain ⟨x,rfl,⟨hx0,hx1⟩,HV,HG2⟩:=hrel
    by_cases hx : x < 32
    ·have d1 : decide (x < 32) = true:=decide_eq_true hx
     have xw : wrap64 (x + 1) = x + 1:=by unfold wrap64;omega
     obtain ⟨y,hy⟩ : ∃ y,x.tdiv 8 = y:=⟨_,rfl⟩;obtain ⟨z,hz⟩ : ∃ z,x.tmod 8 = z:=⟨_,rfl⟩
     have hy' : y = x / 8:=by rw [← hy,Int.tdiv_eq_ediv_of_nonneg hx0]
     have hz' : z = x % 8:=by rw [← hz,Int.tmod_eq_emod_of_nonneg hx0]
     obtain ⟨n8,hn8⟩ : ∃ n,8 * z = n:=⟨_,rfl⟩
     have y0 : 0 ≤ y:=by omega
     have y1 : y < 8:=by omega
     have yw : wrap64 y = y:=by unfold wrap64;omega
     have zw : wrap64 z = z:=by unfold wrap64;omega
     have nw : wrap64 n8 = n8:=by unfold wrap64;omega
     have nwu : IntKind.u64.wrap n8 = n8:=by rw [IntKind.wrap_u64];omega
     have n8a : 0 ≤ n8:=by omega
     have n8b : n8 ≤ 64:=by omega
     have yk : y.toNat = x.toNat / 8:=by omega
     have nk : n8 = 8 * ((x.toNat % 8 : Nat) : Int):=by omega
     obtain ⟨v_q,hv_q⟩ : ∃ v,v = HF.getD y.toNat 0:=⟨_,rfl⟩;obtain ⟨sv2,hsv2⟩ : ∃ v,shr .u64 v_q n8 = v:=⟨_,rfl⟩;have hsv3 : v_q / 2 ^ min n8.toNat 64 = sv2:=hsv2;have hsv4 : v_q / 2 ^ n8.toNat = sv2:=shr_small hsv2 n8b;have aS2:=A11.out.grown (by rw [HHl2.out];decide) HG2.out (by have:=NE7S.out;simpa using this.symm);have s0:=aS2.cell y.toNat (by rw [HHl2.out];omega);rw [← hv_q] at s0;have s1:=HV.out.cell x.toNat (by rw [digestTo_length];omega);have s2:=HV.out.frozen x.toNat (by rw [digestTo_length];omega);obtain ⟨bo,hbo⟩ : ∃ b,b = IntKind.u8.wrap sv2:=⟨_,rfl⟩
     have hb2 : bo = outB HF x.toNat:=by rw [hbo,← hsv2,hv_q,yk,nk];rfl
     have n0_:=HV.out.set x.toNat (by rw [digestTo_length];omega) bo;rw [hb2,digestTo_set _ _ (by omega),← hb2] at n0_;have n1_:=grown_set HG2.out x.toNat (.int .u8 bo);have N0:=am n0_;have N1:=am n1_;have hbo':=hbo.symm;clear hv_q hsv2 aS2 HV hbo hb2 n0_ n1_ yk nk hy' hz'
     go_wp2
     exact ⟨⟨x + 1,rfl,⟨by omega,by omega⟩,by rw [show (x + 1).toNat = x.toNat + 1 by omega];exact N0,N1⟩,by simp [intOf];omega⟩
    ·have d1 : decide (x < 32) = false:=decide_eq_false hx
     have hx9 : x = 32:=by omega
     subst hx9;have hv:=HV.out;rw [show (32 : Int).toNat = 32 from rfl,digestTo_all] at hv;obtain ⟨L,hL⟩ : ∃ L,L = (digestL HF).map (Value.int .u8):=⟨_,rfl⟩
     have hLl : L.length = 32:=by rw [hL];simp [digestL]
     have hLo : ∀ v ∈ L,v.oneCell' = true:=by rw [hL];exact one_of_map _
     have hR:=hv.range;rw [← hL] at hR;have HR2:=am hR;have HLl:=am hLl;have HLo:=am hLo;have HLe:=am hL;have t4:=there_of_block T11.out (HG2.out.block g4 LT411.out (by have:=NE74.out;simpa using this.symm));have T12:=am t4;have B12:=am (B11.out.grown HG2.out B11.out.size (fun j hj=>by cases hj;exact G10n.out));clear hR hLl hLo hL hv HV hx hx0 hx1 t4
     go_wp2_with (first
      | ((with_reducible refine gate_dst (N:=88) rfl ?_);refine wpList_load_mid rfl 31 _ rfl g10 0 rfl L _ HR2.out Tryd.underlying31 rfl (by rw [HLl.out];exact size_of info_a32) ?_)
      | ((with_reducible refine gate_store (t:=31) (p:=4) rfl ?_);refine wpList_store_mid rfl 31 _ _ rfl g4 0 L.toArray rfl rfl (by rw [List.size_toArray,HLl.out,← HZl.out];exact T12.out) (by rw [List.size_toArray,HLl.out];exact size_of info_a32) (all_oneCell_toArray HLo.out) ?_))
     have BR:=World.rangeAt_setCells_same wr g4 0 L (by rw [HLl.out,← HZl.out];exact T12.out);have hres:=run_loadVar_mid (P:=Tryd.prog) (wr.setCells g4 0 L) g4 0 31 L _ BR Tryd.underlying31 rfl (by rw [HLl.out];exact size_of info_a32);refine bodyPost_ret (v:= .agg L.toArray) (results_cell rfl _ rfl hres) rfl ?_;refine ⟨?_,below_setCells g4 (by have:=G4.out;omega) L 0 wr B12.out⟩
     rw [HLe.out,HKE.out,← Hall.out,← HH0.out,← HE3.out])
set_option maxRecDepth 100000 in
set_option maxHeartbeats 4000000 in
theorem ref_Sum.calls (B : Option Addr) (cb : Nat) (p : List Int) (w : World) (hP : Kd.C (Kd.int .u8) w B p.length p) (hpb : p.length ≤ cb) (hp1 : p.length ≤ 10000000) (hpB : ∀ c ∈ p,0 ≤ c ∧ c < 256) :
 Calls Tryd.prog 8 #[.slice B p.length cb] w fun e w'=>e = .returned (.agg ((keyedL [] p).map (Value.int .u8)).toArray) ∧ Below w.heap.size w w':=by
 obtain ⟨Z,hZ⟩ : ∃ Z,Z = zero32.map (Value.int .u8):=⟨_,rfl⟩
 have hZl : Z.length = 32:=by rw [hZ];rfl
 have hal : ∀ w,(zeroValue 31).run Tryd.prog w = .ok (.agg Z.toArray) w:=fun w=>by rw [hZ];exact zero_run info_a32 w
 obtain ⟨X,hX⟩ : ∃ X,X = (keyedL [] p).map (Value.int .u8):=⟨_,rfl⟩
 have hXl : X.length = 32:=by rw [hX,List.length_map,keyedL_length]
 have hXo : ∀ v ∈ X,v.oneCell' = true:=by rw [hX];exact one_of_map _
 have HK : Aside0 (∀ w1,Below w.heap.size w w1 → Calls Tryd.prog 20 #[.slice none 0 0,.slice B p.length cb] w1 fun e w'=>e = .returned (.agg X.toArray) ∧ Below w1.heap.size w1 w'):=⟨fun w1 hb=>by
  rw [hX]
  exact ref_Keyed.calls none B 0 cb [] p w1 (Kd.C_nil _ _) (Nat.le_refl _) (Kd.C_below hP hb) hpb (by decide) hp1 (fun c hc=>by cases hc) hpB⟩
 rw [← hX];have HZl:=am hZl;have HXl:=am hXl;have HXo:=am hXo;clear hX hZ hZl hXl hXo hP hpB;go_enter Tryd.func8,Tryd.ntmps8
 go_upto_region 1 with ((with_reducible refine gate_dst (N:=2) rfl ?_);refine box_event ?hg (N:=2) ?hd (cs:=Z.toArray) (t:=31) ?hr ?_;(case hd=>rfl);(case hg=>rfl);(case hr=>first | (simp [execOp,Instr.alloc,hal,newVar,newRow,go_sem];done) | (simp [execOp,Instr.alloc,hal,newVar,newRow,go_sem];rfl));intro g2 hg_ w2 hbox_ hb_;have G2:=am hg_;have BZ2:=am (there_box hbox_);have HB2:=am hb_;have LT2:=am (blk_lt hbox_);clear hg_ hbox_ hb_)
 go_wp2_with (first
  | (go_at_call 20;with_reducible refine (HK.out w2 HB2.out).mono ?_;rintro e w3 ⟨rfl,hb_⟩;have B3:=am hb_;have BZ3:=am (there_of_below BZ2.out hb_ LT2.out);clear hb_)
  | ((with_reducible refine gate_store (t:=31) (p:=2) rfl ?_);refine wpList_store_mid rfl 31 _ _ rfl g2 0 X.toArray rfl rfl (by rw [List.size_toArray,HXl.out,← HZl.out];exact BZ3.out) (by rw [List.size_toArray,HXl.out];exact size_of info_a32) (all_oneCell_toArray HXo.out) ?_))
 have BR:=World.rangeAt_setCells_same w3 g2 0 X (by rw [HXl.out,← HZl.out];exact BZ3.out);have hres:=run_loadVar_mid (P:=Tryd.prog) (w3.setCells g2 0 X) g2 0 31 X _ BR Tryd.underlying31 rfl (by rw [HXl.out];exact size_of info_a32);refine bodyPost_ret (v:= .agg X.toArray) (results_cell rfl _ rfl hres) rfl ?_;exact ⟨rfl,below_setCells g2 (by have:=G2.out;omega) X 0 w3 (below_step HB2.out B3.out)⟩
end Go.Proofs.YtilckocpgififaaDoor.G
/- The reference's bytes of a call, plainly: the same as the code's. -/
namespace Go.Proofs.YtilckocpgififaaDoor.G
open Go.RowKit Go.Shelf Go.Proofs.YtilckocpgififaaDoorW.PrintWords Go.Proofs.YtilckocpgififaaDoorW.PrintMore Go.Proofs.YtilckocpgififaaDoor.PNum
set_option linter.unusedVariables false
set_option linter.unusedSimpArgs false
theorem raw_loop (f : Nat) (hf : f ≤ 3) (l : List S24) (h4 : l.length ≤ 4) (N : Nat) (hN : 22 ≤ N) (a b c : Int) (ih : ∀ x ∈ l,okT f x = true → ∀ k,N ≤ k → althingref7_raw.f k x.f0 x.f1 x.f2 x.f3 = some (encC f x)) (hok : ∀ x ∈ l,okT f x = true) (d : Nat) :
 ∀ (k i : Nat) (o : List Int),i + d = l.length → d + N < k → o.length + 4000 * d < 1000000 → althingref7_raw.l0 k o i a b c l = some (o ++ rowsB ((l.drop i).map (encC f))):=by
 induction d with
 | zero=>
   intro k i o hi hk hb;obtain ⟨k,rfl⟩ : ∃ q,k = q + 1:=⟨k - 1,by omega⟩;rw [althingref7_raw.l0,if_neg (by omega),List.drop_eq_nil_of_le (by omega)]
   simp [rowsB]
 | succ d ihd=>
   intro k i o hi hk hb;obtain ⟨k,rfl⟩ : ∃ q,k = q + 1:=⟨k - 1,by omega⟩
   have hlt : i < l.length:=by omega
   have e1 : wrap64 ((i : Int) + 1) = ((i + 1 : Nat) : Int):=by rw [wrap_in (by omega) (by omega)];omega
   have c1 : (i : Int) < (l.length : Int):=by omega
   have c2 : (0 : Int) ≤ (i : Int):=by omega
   have hm:=List.getElem_mem hlt;have hlen:=encC_most f _ (hok _ hm);have hsm:=mostC_small hf;have hrl:=rowB_length (encC f l[i]);have hbs:=sizeN_range ((encC f l[i]).length : Int);rw [althingref7_raw.l0,if_pos c1,if_pos c2,rd_natT l i hlt,ih _ hm (hok _ hm) k (by omega),Option.bind_some,refRow_tells k _ (by omega) (by omega),Option.bind_some,if_pos (by omega),e1];rw [ihd k (i + 1) _ (by omega) (by omega) (by rw [List.length_append];omega),List.drop_eq_getElem_cons hlt,List.map_cons,rowsB_cons,List.append_assoc]
theorem raw_tells : ∀ (f : Nat) (hf : f ≤ 3) (c : S24),okT f c = true → ∀ k,30 + 10 * f ≤ k → althingref7_raw.f k c.f0 c.f1 c.f2 c.f3 = some (encC f c):=by
 intro f
 induction f with
 | zero=>
   intro hf c h k hk;obtain ⟨k,rfl⟩ : ∃ q,k = q + 2:=⟨k - 2,by omega⟩;have hp:=refNums_tells (k + 1) [c.f0,c.f1,c.f2,(c.f3.length : Int)] (by simp) (by simp;omega);have e:=okT_leaf h;rw [althingref7_raw.f,hp,Option.bind_some,althingref7_raw.l0];rw [if_neg (by rw [e];simp)]
   simp [encC]
 | succ f ih=>
   intro hf c h k hk;obtain ⟨h4,hok⟩:=okT_kids h;obtain ⟨k,rfl⟩ : ∃ q,k = q + 1:=⟨k - 1,by omega⟩;have hp:=refNums_tells k [c.f0,c.f1,c.f2,(c.f3.length : Int)] (by simp) (by simp;omega);have hl:=numsB_length [c.f0,c.f1,c.f2,(c.f3.length : Int)];simp only [List.length_cons,List.length_nil] at hl;rw [althingref7_raw.f,hp,Option.bind_some];rw [show (0 : Int) = ((0 : Nat) : Int) from rfl];rw [raw_loop f (by omega) c.f3 h4 (30 + 10 * f) (by omega) _ _ _ (fun x hx hx' q hq=>ih (by omega) x hx' q hq) hok c.f3.length k 0 _ (by omega) (by omega) (by omega)]
   simp [encC]
end Go.Proofs.YtilckocpgififaaDoor.G
/- code.taken: bytes are taken as a call (laid by mktaken.py). -/
namespace Go.Proofs.YtilckocpgififaaDoor.G
open Go.RowKit Go.Shelf Go.Proofs.YtilckocpgififaaDoorW.PrintWords Go.Proofs.YtilckocpgififaaDoorW.PrintLast Go.Proofs.YtilckocpgififaaDoorW.PrintMore Go.Proofs.YtilckocpgififaaDoor.PNum
set_option linter.unusedVariables false
set_option linter.unusedSimpArgs false
section
variable {P : Program} {ops : Array Oper} {md : Region.Mode} {Q : Exit → Act → World → Prop} {S : World → Prop} {ds : List Nat}
theorem two_l {i j : Nat} {Ni Nj : Option Tmp} {oi oj : Oper} {fuel : Nat} {l : Array Bool} {a : Act} {w : World} (li lj : Array Bool) (hi : ops[i]? = some oi) (hj : ops[j]? = some oj) (hNi : oi.dst = Ni) (hNj : oj.dst = Nj)
 (hc : (Region.ready md ops l == [i,j] && l.setIfInBounds i true == li && l.setIfInBounds j true == lj) = true) (hdi : i ∈ ds) (hdj : j ∈ ds)
 (h1 : ∀ K : Act → World → Prop,Shut (∀ a' w',wpAnyLast P md ops Q S ds fuel li a' w' → K a' w') → if Region.wanted oi (yielded ops a.tmps) = true then Oper.wp P oi a w K Q else K (a.put Ni undef) w)
 (h2 : ∀ K : Act → World → Prop,Shut (∀ a' w',wpAnyLast P md ops Q S ds fuel lj a' w' → K a' w') → if Region.wanted oj (yielded ops a.tmps) = true then Oper.wp P oj a w K Q else K (a.put Nj undef) w) :
 wpAnyLast P md ops Q S ds (fuel + 1) l a w:=by
 subst hNi;subst hNj;simp only [Bool.and_eq_true,beq_iff_eq] at hc;obtain ⟨⟨h3,h4⟩,h5⟩:=hc;subst h4;subst h5;exact wpAnyLast_ready h3 (by simp) (AllReadyL.cons_last hi hdi (fun K hK=>h1 K hK) (AllReadyL.cons_last hj hdj (fun K hK=>h2 K hK) AllReadyL.nil))
end
def nextK (dec : List Int → Option S24) : Option S24 → Nat → List Int → Bool → List S24 → Option (List S24 × List Int × Bool)
 | none,_,_,_,_=>none
 | some k,n,l,ok,acc=>kidsA dec n l ok (acc ++ [k])
theorem kidsA_next (dec : List Int → Option S24) (n : Nat) (l : List Int) (ok : Bool) (acc : List S24) : kidsA dec (n + 1) l ok acc = nextK dec (dec (rowT l).1) n (l.drop (rowT l).2.1) (ok && (rowT l).2.2) acc:=by
 rw [kidsA]
 cases dec (rowT l).1 <;> rfl
def endK (a b c : Int) : Option (List S24 × List Int × Bool) → Option S24
 | none=>none
 | some (ks,r,ok)=>if (ok && decide (r.length = 0)) = true then some ⟨a,b,c,ks⟩ else none
theorem takenF_end (f : Nat) (l : List Int) (h : headOk l = true) (hn : ¬ kidsN l > 4) : takenF (f + 1) l = endK (valT l) (valT (restT l)) (valT (restT (restT l))) (kidsA (takenF f) (kidsN l).toNat (bodyT l) true []):=by
 rw [takenF,if_neg (by rw [h];simp;omega)]
 cases kidsA (takenF f) (kidsN l).toNat (bodyT l) true [] <;> rfl
theorem places_cells {w : World} {gp t gc gn : Nat} (h : w.heap[gp]? = some (.cells #[.pointer (some ⟨gc,0,none⟩),.pointer (some ⟨gc,1,none⟩),.pointer (some ⟨gc,2,none⟩),.pointer (some ⟨gn,0,none⟩)] t (0,0))) :
 ∀ i (hi : i < placesC.length),w.cell? ⟨gp,i,none⟩ = some (.pointer (some ⟨if (placesC[i]).1 = true then gc else gn,(placesC[i]).2,none⟩)):=by
 have hL : Lies w gp [.pointer (some ⟨gc,0,none⟩),.pointer (some ⟨gc,1,none⟩),.pointer (some ⟨gc,2,none⟩),.pointer (some ⟨gn,0,none⟩)]:=Lies.box h;intro i hi
 have : i = 0 ∨ i = 1 ∨ i = 2 ∨ i = 3:=by have : placesC.length = 4:=rfl;omega
 rcases this with rfl | rfl | rfl | rfl <;> exact hL.cell rfl
theorem places_in {L1 L2 : List Value} (h1 : L1.length = 4) (h2 : L2.length = 1) : ∀ i (h : i < placesC.length),(placesC[i]).2 < (if (placesC[i]).1 = true then L1 else L2).length:=by
 intro i hi
 have : i = 0 ∨ i = 1 ∨ i = 2 ∨ i = 3:=by have : placesC.length = 4:=rfl;omega
 rcases this with rfl | rfl | rfl | rfl <;> simp [placesC,h1,h2]
def taken_r12.T : Bool × List (List Nat × List Nat):=(true,[([],[]),([0],[0]),([],[]),([1],[1]),([],[]),([1,4,0,1,2,3,4],[1,4]),([5,3,0,1,2,3,4,5],[3,5]),([6,2,5,0,1,2,3,4,5],[2,6]),([0,1,2,3,4,5],[]),([8,5,5,0,1,2,3,4,5],[5,8])])
def taken_r12.B : List Nat:=[0,1,0,3,0,31,63,127,63,319]
theorem taken_r12.tab : rtab .any (opsOf Tryd.f23 12) = taken_r12.T:=by kernel_rfl
theorem taken_r12.bits : waitsOk taken_r12.T.2 taken_r12.B = true:=by kernel_rfl
def taken_r14.T : Bool × List (List Nat × List Nat):=(true,[([],[]),([],[]),([1],[1]),([0,2,0],[0]),([2,3,0,1,2,3],[2])])
def taken_r14.B : List Nat:=[0,0,2,7,15]
theorem taken_r14.tab : rtab .any (opsOf Tryd.f23 14) = taken_r14.T:=by kernel_rfl
theorem taken_r14.bits : waitsOk taken_r14.T.2 taken_r14.B = true:=by kernel_rfl
def taken_r12.l0 : Array Bool:=bl 10 1
def taken_r12.l1 : Array Bool:=bl 10 3
def taken_r12.l2 : Array Bool:=bl 10 7
def taken_r12.l3 : Array Bool:=bl 10 15
def taken_r12.l4 : Array Bool:=bl 10 31
def taken_r12.l5 : Array Bool:=bl 10 63
def taken_r12.l6 : Array Bool:=bl 10 127
def taken_r12.l7 : Array Bool:=bl 10 383
def taken_r12.l8 : Array Bool:=bl 10 1023
def taken_r12.l9 : Array Bool:=bl 10 511
def taken_r12.l10 : Array Bool:=bl 10 895
def taken_r14.l0 : Array Bool:=bl 5 1
def taken_r14.l1 : Array Bool:=bl 5 3
def taken_r14.l2 : Array Bool:=bl 5 7
def taken_r14.l3 : Array Bool:=bl 5 15
def taken_r14.l4 : Array Bool:=bl 5 31
set_option maxRecDepth 100000 in
set_option maxHeartbeats 32000000 in
theorem taken_step (f : Nat) (d : Int) (hd : d + f = 4) (hd0 : 0 ≤ d) (ih : ∀ g,f = g + 1 → TakenAt g (d + 1)) : TakenAt f d:=by
 intro A c l w hC hc hby hsh;obtain ⟨B,hBe⟩ : ∃ B,B = w.heap.size:=⟨_,rfl⟩;rw [← hBe];obtain ⟨Z,hZ⟩ : ∃ Z,Z = zeroC:=⟨_,rfl⟩
 have hZl : Z.length = 4:=by rw [hZ];rfl
 have hZo : ∀ v ∈ Z,v.oneCell' = true:=by rw [hZ];intro v hv;simp [zeroC] at hv;rcases hv with rfl | rfl | rfl | rfl <;> rfl
 have HAL : Aside0 (∀ w,(zeroValue 24).run Tryd.prog w = .ok (.agg Z.toArray) w):=⟨fun w=>by rw [hZ];exact zero_runC w⟩;have HBZ : Aside0 (∀ w,(Instr.build 24 #[]).run Tryd.prog w = .ok (.agg Z.toArray) w):=⟨fun w=>by rw [hZ];exact run_build w _ _ _ built_call⟩;have HZl:=am hZl;have HZo:=am hZo;have HZ:=am hZ;have HC:=am hC;have Hc:=am hc;have Hby:=am hby;have Hsh:=am hsh;have HBe:=am hBe;have HIH:=am ih;have Hfar : Aside0 (∀ ad,A = some ad → 0 < l.length → ad.block < B):=⟨fun ad e hn=>by rw [hBe];subst e;exact Kd.C_lt hC hn (by decide)⟩;clear hZ hZl hZo hC hby hsh hBe ih;go_enter Tryd.func23,Tryd.ntmps23
 go_upto_region 1 with ((with_reducible refine gate_dst (N:=4) rfl ?_);refine box_event ?hg (N:=4) ?hd (cs:=Z.toArray) (t:=24) ?hr ?_;(case hd=>rfl);(case hg=>rfl);(case hr=>first | (simp [execOp,Instr.alloc,HAL.out,newVar,newRow,go_sem];done) | (simp [execOp,Instr.alloc,HAL.out,newVar,newRow,go_sem];rfl) | (go_simp;done) | (go_simp;rfl));intro g4 hg_ w1 hbox_ hb_;have h4_ : Lies w1 g4 Z:=Lies.box hbox_;have G4:=am hg_;have L41:=am h4_;have B1:=am hb_;clear h4_;clear hg_ hbox_ hb_)
 go_upto_region 2 with ((with_reducible refine gate_dst (N:=13) rfl ?_);refine box_event ?hg (N:=13) ?hd (cs:=#[.slice A l.length c,.bool true]) (t:=75) ?hr ?_;(case hd=>rfl);(case hg=>rfl);(case hr=>first | (simp [execOp,Instr.alloc,HAL.out,newVar,newRow,go_sem];done) | (simp [execOp,Instr.alloc,HAL.out,newVar,newRow,go_sem];rfl) | (go_simp;done) | (go_simp;rfl));intro R hg_ w2 hbox_ hb_;have hr_ : Lies w2 R [.slice A l.length c,.bool true]:=Lies.box hbox_;have GR:=am hg_;have LR2:=am hr_;have B2:=am hb_;clear hr_;clear hg_ hbox_ hb_)
 go_upto_region 3 with (first
  | ((with_reducible refine gate_dst (N:=14) rfl ?_);refine Kd.event_run (v:= .agg Z.toArray) (w1:=w2) rfl (build_run0' rfl (HBZ.out w2)) ?_)
  | ((with_reducible refine gate_dst (N:=7) rfl ?_);refine box_event ?hg (N:=7) ?hd (cs:=Z.toArray) (t:=24) ?hr ?_;(case hd=>rfl);(case hg=>rfl);(case hr=>first | (simp [execOp,Instr.alloc,HAL.out,newVar,newRow,go_sem];done) | (simp [execOp,Instr.alloc,HAL.out,newVar,newRow,go_sem];rfl) | (go_simp;done) | (go_simp;rfl));intro gc hg_ w3 hbox_ hb_;have hr_ : Lies w3 gc Z:=Lies.box hbox_;have GC:=am hg_;have LC3:=am hr_;have B3:=am hb_;clear hr_;clear hg_ hbox_ hb_)
  | ((with_reducible refine gate_store (t:=24) (p:=7) rfl ?_);refine wpList_store_mid rfl 24 _ _ rfl gc 0 Z.toArray rfl rfl (by rw [List.size_toArray];exact LC3.out.there) (by rw [List.size_toArray,HZl.out];exact info_call) (all_oneCell_toArray HZo.out) ?_))
 have hgc4 : B ≤ g4:=by have:=G4.out;have:=HBe.out;omega
 have s1:=B1.out.size;have s2:=B2.out.size;have s3:=B3.out.size;have g4lt : g4 < w1.heap.size:=L41.out.lt (by rw [HZl.out];decide);have Rlt : R < w2.heap.size:=LR2.out.lt (by simp);have gclt : gc < w3.heap.size:=LC3.out.lt (by rw [HZl.out];decide);have e4:=G4.out;have eR:=GR.out;have eC:=GC.out;have eB:=HBe.out
 have n0_ : Lies (w3.setCells gc 0 Z) gc Z:=by have:=LC3.out.splice 0 Z (by omega);rwa [List.take_zero,List.nil_append,List.drop_of_length_le (by omega),List.append_nil] at this
 have k0_ : Kept (fun k=>k = gc) w3 (w3.setCells gc 0 Z):=kept_setCells gc 0 Z w3;have b0_ : Below B w (w3.setCells gc 0 Z):=below_setCells' gc (by omega) Z 0 w3 (by rw [eB];exact below_step (below_step B1.out B2.out) B3.out);have m4_:=((L41.out.below B2.out g4lt).below B3.out (by omega)).kept k0_ (by rw [HZl.out];decide) (by show ¬ g4 = gc;omega);have mR_:=(LR2.out.below B3.out Rlt).kept k0_ (by simp) (by show ¬ R = gc;omega);have z4_ : w3.heap.size ≤ (w3.setCells gc 0 Z).heap.size:=k0_.size;generalize World.setCells _ _ _ _ = w4 at n0_ k0_ b0_ m4_ mR_ z4_ ⊢;have LC4:=am n0_;have L44:=am m4_;have LR4:=am mR_;have B04:=am b0_;have Hlt : Aside0 (B ≤ g4 ∧ g4 < R ∧ R < gc ∧ gc < w4.heap.size ∧ B ≤ w4.heap.size):=⟨by omega,by omega,by omega,by omega,by omega⟩;clear n0_ k0_ b0_ m4_ mR_ z4_ s1 s2 s3 g4lt Rlt gclt e4 eR eC eB hgc4
 go_upto_region 4 with ((with_reducible refine gate_dst (N:=8) rfl ?_);refine box_event ?hg (N:=8) ?hd (cs:=#[.int .i64 0]) (t:=3) ?hr ?_;(case hd=>rfl);(case hg=>rfl);(case hr=>first | (simp [execOp,Instr.alloc,HAL.out,newVar,newRow,go_sem];done) | (simp [execOp,Instr.alloc,HAL.out,newVar,newRow,go_sem];rfl) | (go_simp;done) | (go_simp;rfl));intro gn hg_ w5 hbox_ hb_;have hr_ : Lies w5 gn [.int .i64 0]:=Lies.box hbox_;have GN:=am hg_;have LN5:=am hr_;have B5:=am hb_;have s8:=hr_.cell (i:=0) (v:= .int .i64 0) rfl;have f8:=hr_.frozen 0 (by simp);clear hr_;clear hg_ hbox_ hb_)
 have n0_ : Lies (w5.setCell ⟨gn,0,none⟩ (.int .i64 0)) gn [.int .i64 0]:=LN5.out.set 0 (by simp) _;have hln:=Hlt.out;have egn:=GN.out;have gnlt : gn < w5.heap.size:=LN5.out.lt (by simp);have s5:=B5.out.size;have b0_ : Below B w (w5.setCell ⟨gn,0,none⟩ (.int .i64 0)):=(B04.out.trans (B5.out.mono (by omega))).setCell (p:=⟨gn,0,none⟩) (by show B ≤ gn;omega) _;have m4_:=(L44.out.below B5.out (by omega)).set_far (b:=gn) (by omega) 0 (.int .i64 0);have mR_:=(LR4.out.below B5.out (by omega)).set_far (b:=gn) (by omega) 0 (.int .i64 0);have mC_:=(LC4.out.below B5.out (by omega)).set_far (b:=gn) (by omega) 0 (.int .i64 0)
 have z_ : (w5.setCell ⟨gn,0,none⟩ (.int .i64 0)).heap.size = w5.heap.size:=by rw [World.size_setCell]
 clear s8 f8;generalize World.setCell _ _ _ = w5a at n0_ b0_ m4_ mR_ mC_ z_ ⊢;have hC5 : Kd.C (Kd.int .u8) w5a A l.length l:=Kd.C_below HC.out (by rw [← HBe.out];exact b0_);have hra : ReadAt B w5a R gc gn A c l true Z [.int .i64 0]:=⟨mR_,Hc.out,hC5,Hfar.out,Hby.out,Hsh.out,mC_,n0_,by omega,by omega,by omega,by omega,by omega,by omega,by rw [HZl.out];decide,by simp⟩;have HRA:=am hra;have L45:=am m4_;have B05:=am b0_;have Hlt5 : Aside0 (gn < w5a.heap.size ∧ g4 < w5a.heap.size ∧ gc < gn):=⟨by omega,by omega,by omega⟩;clear n0_ b0_ m4_ mR_ mC_ z_ hC5 hra hln egn gnlt s5
 go_upto_region 5 with (first
  | ((with_reducible refine gate_dst (N:=19) rfl ?_);refine slice_event' ?hg (N:=19) ?hd (cs:=#[.pointer (some ⟨gc,0,none⟩),.pointer (some ⟨gc,1,none⟩),.pointer (some ⟨gc,2,none⟩),.pointer (some ⟨gn,0,none⟩)]) (t:=77) (n:=4) (c:=4) ?hr ?_;(case hd=>rfl);(case hg=>rfl);(case hr=>first | (go_simp;done) | (go_simp;rfl));intro gp hg_ w5b hbox_ hb_;have hpc_:=places_cells hbox_;have hpl_:=blk_lt hbox_;have HPC:=am hpc_;have HPL:=am hpl_;have GP:=am hg_;have B5b:=am hb_;clear hg_ hbox_ hb_ hpc_ hpl_)
  | (go_at_call 40;go_loud (have hN_:=(nums_calls B R gc gn gp 4 placesC A c l true Z [.int .i64 0] w5b (HRA.out.below B5b.out) (places_in HZl.out rfl) HPC.out ⟨HPL.out,by have:=GP.out;have:=HRA.out.reader.lt (by simp);omega,by have:=GP.out;have:=HRA.out.one.lt HRA.out.p1;omega,by have:=GP.out;have:=Hlt5.out;omega⟩ (by decide));rw [show placesC.length = 4 from rfl] at hN_;with_reducible refine hN_.mono ?_;clear hN_;rintro e w6 ⟨rfl,⟨A',c',hr_⟩,hk_⟩;rw [HZ.out,numsW_head] at hr_;have HR6:=am hr_;have HK6:=am hk_;clear hr_ hk_)))
 have b6_ : Below B w w6:=HK6.out.to_below (B05.out.trans (B5b.out.mono (by have:=B05.out.size;have:=Hlt.out;have:=HBe.out;omega))) (by have:=B05.out.size;have:=B5b.out.size;have:=HBe.out;omega) (fun k hk=>by have:=HRA.out.atR;have:=HRA.out.at1;have:=HRA.out.at2;rcases hk with hk | hk | hk <;> omega);have m4_ : Lies w6 g4 Z:=(L45.out.below B5b.out Hlt5.out.2.1).kept HK6.out (by rw [HZl.out];decide) (fun hk=>by have:=Hlt.out;have:=Hlt5.out;rcases hk with hk | hk | hk <;> omega);have L46:=am m4_;have B06:=am b6_;clear b6_ m4_ HK6 B5b GP HPC HPL L45 B05;have G4n : Aside0 (B ≤ g4):=⟨Hlt.out.1⟩;have Hne : Aside0 (g4 ≠ R ∧ g4 ≠ gc ∧ g4 ≠ gn):=⟨by have:=Hlt.out;omega,by have:=Hlt.out;omega,by have:=Hlt.out;have:=Hlt5.out;omega⟩;obtain ⟨a,ha⟩ : ∃ v,v = valT l:=⟨_,rfl⟩;obtain ⟨b,hb⟩ : ∃ v,v = valT (restT l):=⟨_,rfl⟩;obtain ⟨c3,hc3⟩ : ∃ v,v = valT (restT (restT l)):=⟨_,rfl⟩;obtain ⟨n,hn⟩ : ∃ v,v = kidsN l:=⟨_,rfl⟩;obtain ⟨body,hbody⟩ : ∃ v,v = bodyT l:=⟨_,rfl⟩;obtain ⟨hok,hhok⟩ : ∃ v,v = headOk l:=⟨_,rfl⟩;have hR6:=HR6.out;rw [← ha,← hb,← hc3,← hn,← hbody,← hhok] at hR6;replace HR6:=am hR6;obtain ⟨LC,hLC⟩ : ∃ LC : List Value,LC = [.int .i64 a,.int .i64 b,.int .i64 c3,.slice none 0 0]:=⟨_,rfl⟩;have HLC:=am hLC;have HLCl : Aside0 (LC.length = 4):=⟨by rw [hLC];rfl⟩;have HLCo : Aside0 (∀ v ∈ LC,v.oneCell' = true):=⟨by rw [hLC];intro v hv;simp at hv;rcases hv with rfl | rfl | rfl | rfl <;> rfl⟩;have q1:=hR6.reader.cell (i:=1) (v:= .bool hok) rfl;have q2:=hR6.two.cell (i:=0) (v:= .int .i64 n) rfl;have Hn0 : Aside0 (0 ≤ n):=⟨by rw [hn];exact (numT_range (restT_bytes (restT_bytes (restT_bytes Hby.out)))).1⟩;have Ha:=am ha;have Hb:=am hb;have Hc3:=am hc3;have Hn:=am hn;have Hbody:=am hbody;have Hhok:=am hhok;clear hR6 ha hb hc3 hn hbody hhok hLC
 cases hok with
 | false=>
   have hnone : takenF f l = none:=by
    cases f with
    | zero=>rfl
    | succ g=>rw [takenF,if_pos (.inl Hhok.out.symm)]
   have HNO:=am hnone;clear hnone
   go_wp2_with (first
    | ((with_reducible refine gate_dst (N:=34) rfl ?_);refine wpList_load_mid rfl 24 _ rfl gc 0 rfl LC _ (by have:=HR6.out.one.range;rw [← HLC.out] at this;exact this) Tryd.underlying24 rfl (by rw [HLCl.out];exact info_call) ?_)
    | ((with_reducible refine gate_store (t:=24) (p:=4) rfl ?_);refine wpList_store_mid rfl 24 _ _ rfl g4 0 LC.toArray rfl rfl (by rw [List.size_toArray,HLCl.out];exact L46.out.part_there 0 4 (by rw [HZl.out];decide)) (by rw [List.size_toArray,HLCl.out];exact info_call) (all_oneCell_toArray HLCo.out) ?_))
   have BR:=World.rangeAt_setCells_same w6 g4 0 LC (by rw [HLCl.out];exact L46.out.part_there 0 4 (by rw [HZl.out];decide));have hres:=run_loadVar_mid (P:=Tryd.prog) (w6.setCells g4 0 LC) g4 0 24 LC _ BR Tryd.underlying24 rfl (by rw [HLCl.out];exact info_call);refine bodyPost_ret (results_cell_tmp rfl _ rfl hres) rfl ?_;refine ⟨⟨LC,by rw [HNO.out];rfl,HLCl.out,HLCo.out,fun x hx=>by rw [HNO.out] at hx;cases hx⟩,below_setCells' g4 G4n.out LC 0 w6 B06.out⟩
 | true=>
 by_cases h4 : n > 4
 ·have d4 : decide (n > 4) = true:=decide_eq_true h4
  have hnone : takenF f l = none:=by
   cases f with
   | zero=>rfl
   | succ g=>rw [takenF,if_pos (.inr (by rw [← Hn.out];exact h4))]
  have HNO:=am hnone;clear hnone
  go_wp2_with (first
   | ((with_reducible refine gate_dst (N:=34) rfl ?_);refine wpList_load_mid rfl 24 _ rfl gc 0 rfl LC _ (by have:=HR6.out.one.range;rw [← HLC.out] at this;exact this) Tryd.underlying24 rfl (by rw [HLCl.out];exact info_call) ?_)
   | ((with_reducible refine gate_store (t:=24) (p:=4) rfl ?_);refine wpList_store_mid rfl 24 _ _ rfl g4 0 LC.toArray rfl rfl (by rw [List.size_toArray,HLCl.out];exact L46.out.part_there 0 4 (by rw [HZl.out];decide)) (by rw [List.size_toArray,HLCl.out];exact info_call) (all_oneCell_toArray HLCo.out) ?_))
  have BR:=World.rangeAt_setCells_same w6 g4 0 LC (by rw [HLCl.out];exact L46.out.part_there 0 4 (by rw [HZl.out];decide));have hres:=run_loadVar_mid (P:=Tryd.prog) (w6.setCells g4 0 LC) g4 0 24 LC _ BR Tryd.underlying24 rfl (by rw [HLCl.out];exact info_call);refine bodyPost_ret (results_cell_tmp rfl _ rfl hres) rfl ?_;refine ⟨⟨LC,by rw [HNO.out];rfl,HLCl.out,HLCo.out,fun x hx=>by rw [HNO.out] at hx;cases hx⟩,below_setCells' g4 G4n.out LC 0 w6 B06.out⟩
 have d4 : decide (n > 4) = false:=decide_eq_false h4
 by_cases h3 : d > 3
 ·have d3 : decide (d > 3) = true:=decide_eq_true h3
  have hnone : takenF f l = none:=by
   cases f with
   | zero=>rfl
   | succ g=>omega
  have HNO:=am hnone;clear hnone
  go_wp2_with (first
   | ((with_reducible refine gate_dst (N:=34) rfl ?_);refine wpList_load_mid rfl 24 _ rfl gc 0 rfl LC _ (by have:=HR6.out.one.range;rw [← HLC.out] at this;exact this) Tryd.underlying24 rfl (by rw [HLCl.out];exact info_call) ?_)
   | ((with_reducible refine gate_store (t:=24) (p:=4) rfl ?_);refine wpList_store_mid rfl 24 _ _ rfl g4 0 LC.toArray rfl rfl (by rw [List.size_toArray,HLCl.out];exact L46.out.part_there 0 4 (by rw [HZl.out];decide)) (by rw [List.size_toArray,HLCl.out];exact info_call) (all_oneCell_toArray HLCo.out) ?_))
  have BR:=World.rangeAt_setCells_same w6 g4 0 LC (by rw [HLCl.out];exact L46.out.part_there 0 4 (by rw [HZl.out];decide));have hres:=run_loadVar_mid (P:=Tryd.prog) (w6.setCells g4 0 LC) g4 0 24 LC _ BR Tryd.underlying24 rfl (by rw [HLCl.out];exact info_call);refine bodyPost_ret (results_cell_tmp rfl _ rfl hres) rfl ?_;refine ⟨⟨LC,by rw [HNO.out];rfl,HLCl.out,HLCo.out,fun x hx=>by rw [HNO.out] at hx;cases hx⟩,below_setCells' g4 G4n.out LC 0 w6 B06.out⟩
 have d3 : decide (d > 3) = false:=decide_eq_false h3;obtain ⟨g,rfl⟩ : ∃ g,f = g + 1:=⟨f - 1,by omega⟩;have HI:=am (HIH.out g rfl)
 have dw : wrap64 (d + 1) = d + 1:=by unfold wrap64;omega
 obtain ⟨okk,hokk⟩ : ∃ okk : Nat → Prop,okk = fun k=>k ≠ R ∧ k ≠ gc ∧ k ≠ gn ∧ k ≠ g4:=⟨_,rfl⟩;have Hokk:=am hokk
 have Htf : Aside0 (takenF (g + 1) l = endK a b c3 (kidsA (takenF g) n.toNat body true [])):=⟨by
  rw [takenF_end g l Hhok.out.symm (by rw [← Hn.out];exact h4),← Hn.out,← Hbody.out,← Ha.out,← Hb.out,← Hc3.out]⟩
 clear hokk d4 d3 h3 LC HLC HLCl HLCo
 go_upto_region 7 with (fail)
 clear q1
 go_wp2
 go_loopw [36] (fun i wr=>∃ x : Int,i = .int .i64 x ∧ (0 ≤ x ∧ x ≤ n) ∧
  Aside0 (∃ A' c' l' ok' ks v3,ReadAt B wr R gc gn A' c' l' ok' [.int .i64 a,.int .i64 b,.int .i64 c3,v3] [.int .i64 n] ∧ Lies wr g4 Z ∧ k24.R 24 wr B okk v3 ks ∧ ks.length = x.toNat ∧
   kidsA (takenF g) (n - x).toNat l' ok' ks = kidsA (takenF g) n.toNat body true []) ∧ Aside0 (Below B w wr))
  (fun i _=>n.toNat - (intOf i).toNat)
 case atStart=>exact ⟨0,rfl,⟨by omega,Hn0.out⟩,⟨A',c',body,true,[],.slice none 0 0,HR6.out,L46.out,Kd.R_nil _ _ _ _ _,rfl,by rw [Int.sub_zero]⟩,B06⟩
 case round=>
 clear HR6 L46 B06 q2;clear A' c';obtain ⟨x,rfl,⟨hx0,hx1⟩,HV,HG⟩:=hrel;obtain ⟨A',c',l',ok',ks,v3,hRE,h4E,hRK,hkl,hE⟩:=HV.out;obtain ⟨A3,cc3,hv3,hcc3,_⟩:=Kd.R_reads hRK;subst hv3;obtain ⟨LC,hLC⟩ : ∃ LC : List Value,LC = [.int .i64 a,.int .i64 b,.int .i64 c3,.slice A3 ks.length cc3]:=⟨_,rfl⟩;have HLC:=am hLC;have HLCl : Aside0 (LC.length = 4):=⟨by rw [hLC];rfl⟩;have HLCo : Aside0 (∀ v ∈ LC,v.oneCell' = true):=⟨by rw [hLC];intro v hv;simp at hv;rcases hv with rfl | rfl | rfl | rfl <;> rfl⟩;have HRE:=am hRE;have H4E:=am h4E;have HRK0:=am hRK;have HKL:=am hkl;have HE:=am hE;clear hRE h4E hRK hkl hE HV hLC hcc3
 by_cases hlt : x < n
 rotate_left
 ·have d0 : decide (x < n) = false:=decide_eq_false hlt
  have hx9 : x = n:=by omega
  subst hx9;have hE:=HE.out;rw [Int.sub_self] at hE;have hE' : kidsA (takenF g) x.toNat body true [] = some (ks,l',ok'):=hE.symm;obtain ⟨fl,hfl⟩ : ∃ fl,(ok' && decide (l'.length = 0)) = fl:=⟨_,rfl⟩;have HTF : Aside0 (takenF (g + 1) l = if fl = true then some ⟨a,b,c3,ks⟩ else none):=⟨by rw [Htf.out,hE',← hfl];rfl⟩;have hwh:=whole_calls B R gc gn A' c' l' ok' _ _ wr.drew HRE.out.drew;rw [hfl] at hwh;have HWH:=am hwh;clear hwh hfl;clear hE hE' hlt d0
  ·have d0 : decide (x < x) = false:=decide_eq_false (by omega)
   go_upto_region 14 with (fail)
   refine start_ (n:=5) (S:=fun w'=>w'.rangeAt gc 0 LC) (ds:=[3]) (bl 5 0) (by kernel_rfl) rfl rfl (by have:=HRE.out.drew.one.range;rw [← HLC.out] at this;exact this) (fun hHeld=>?_);refine with_tabW taken_r14.tab taken_r14.bits (fun HT_ HW_=>?_);refine take_ (i:=0) (N:=some 58) (v:= .agg LC.toArray) (a':=?_) taken_r14.l0 rfl rfl (take_ofW HT_.out HW_.out (by kernel_rfl)) (fun _ _ _ h=>h) (Or.inl ⟨by rfl,?_⟩) hHeld ?_ ?_
   ·intro w' hs_;exact load_runO' (ty:=24) (y:= .tmp 7) (g:=gc) (off:=0) (L:=LC) rfl rfl hs_ Tryd.underlying24 rfl (by rw [HLCl.out];exact info_call)
   rotate_left
   ·simp only [Act.put,List.setIfInBounds_toArray,List.set_cons_zero,List.set_cons_succ,i64_w,i32_w]
    rfl
   refine p_ HT_ 1 (some 59) taken_r14.l1 ?_;refine o_ HT_ 2 (some 60) taken_r14.l2 fun K hK=>?_;refine gs Tryd.func42 #[.pointer (some ⟨R,0,none⟩)] ?_;refine (HWH.out).mono ?_;rintro e w12 ⟨rfl,rfl⟩;refine ⟨_,rfl,?_⟩;refine hK.out _ _ hHeld (fun hHeld=>?_);clear hK K;refine nm (some 60) ?_;refine last_ (i:=3) (N:=none) taken_r14.l3 rfl rfl (one_of HT_.out (by kernel_rfl)) (by decide) (fun K hK=>?_);refine skip_ (w1:=wr.drew.setCells g4 0 LC) (by rfl) rfl ?_ ?_
   ·exact store_runO' (x:= .tmp 4) (y:= .tmp 58) (off:=0) rfl rfl rfl (by rw [HLCl.out];exact H4E.out.drew.part_there 0 4 (by rw [HZl.out];decide)) (by rw [HLCl.out];exact info_call) HLCo.out
   refine hK.out _ _ ?_;clear hK K;refine p_ HT_ 4 (some 5) taken_r14.l4 ?_;refine done_ (done_of HT_.out (by kernel_rfl)) ?_;clear HT_ HW_ hHeld
   go_wp2
   have BR:=World.rangeAt_setCells_same wr.drew g4 0 LC (by rw [HLCl.out];exact H4E.out.drew.part_there 0 4 (by rw [HZl.out];decide));have hres:=run_loadVar_mid (P:=Tryd.prog) (wr.drew.setCells g4 0 LC) g4 0 24 LC _ BR Tryd.underlying24 rfl (by rw [HLCl.out];exact info_call);refine bodyPost_ret (results_cell_tmp rfl _ rfl hres) rfl ?_;refine ⟨⟨LC,?_,HLCl.out,HLCo.out,fun y hy=>?_⟩,below_setCells' g4 G4n.out LC 0 wr.drew (below_drew HG.out)⟩
   ·rw [HTF.out];cases fl <;> rfl
   ·rw [HTF.out] at hy;have hM:=k24_mkM (wr.drew.setCells g4 0 LC) B (fun _=>True) ⟨a,b,c3,ks⟩ (v3:= .slice A3 ks.length cc3) (Kd.R_mono (Kd.R_step HRK0.out (fun k ho hl=>(kept_setCells g4 0 LC wr.drew).block k hl (by rw [Hokk.out] at ho;exact ho.2.2.2))) (fun _ _=>trivial))
    cases fl with
    | false=>cases hy
    | true=>
      obtain rfl:=Option.some.inj hy;rw [HLC.out];rw [HLC.out] at hM;exact hM
 have d0 : decide (x < n) = true:=decide_eq_true hlt
 have xw : wrap64 (x + 1) = x + 1:=by unfold wrap64;omega
 obtain ⟨p,hp⟩ : ∃ p,(rowT l').1 = p:=⟨_,rfl⟩;obtain ⟨l2,hl2⟩ : ∃ q,l'.drop (rowT l').2.1 = q:=⟨_,rfl⟩;obtain ⟨ok2,hok2⟩ : ∃ q,(ok' && (rowT l').2.2) = q:=⟨_,rfl⟩;obtain ⟨r,hr⟩ : ∃ r,takenF g p = r:=⟨_,rfl⟩;have hrow:=row_calls B R gc gn A' c' l' ok' _ _ wr HRE.out;rw [hp,hl2,hok2] at hrow;have HROW:=am hrow;have hps:=rowT_size HRE.out.bytes;rw [hp] at hps;have hsh':=HRE.out.short;have HPB : Aside0 (IsBytes p ∧ p.length < 140737488355328):=⟨hps.2.2,by omega⟩
 have hstep : kidsA (takenF g) (n - x).toNat l' ok' ks = nextK (takenF g) r (n - (x + 1)).toNat l2 ok2 ks:=by
  rw [show (n - x).toNat = (n - (x + 1)).toNat + 1 by omega,kidsA_next,hp,hl2,hok2,hr]
 have HST:=am hstep;have HR:=am hr
 have hBw : B ≤ wr.heap.size:=by have:=HG.out.size;have:=HBe.out;omega
 have HBw:=am hBw;have q0:=HRE.out.two.cell (i:=0) (v:= .int .i64 n) rfl;clear hrow hps hsh' hstep hr hBw hp hl2 hok2
 go_upto_region 10 with (first
  | (go_at_call 41;go_loud (with_reducible refine HROW.out.mono ?_;rintro e w7 ⟨⟨A1,c1,rfl,hc1_,hC1_,hf1_⟩,⟨A2,c2,hr2_⟩,hk_⟩;have HC1:=am hc1_;have HCP:=am hC1_;have HR7:=am hr2_;have HK7:=am hk_;clear hc1_ hC1_ hf1_ hr2_ hk_))
  | (go_at_call 23;go_loud (have hT_:=HI.out A1 c1 p w7 HCP.out HC1.out HPB.out.1 HPB.out.2;with_reducible refine hT_.mono ?_;clear hT_;rintro e w8 ⟨⟨LK,rfl,hl_,ho_,hm_⟩,hb_⟩;rw [HR.out] at hm_ ⊢;have HLKl:=am hl_;have HLKo:=am ho_;have HMK:=am hm_;have B8:=am hb_;clear hl_ ho_ hm_ hb_))
  | ((with_reducible refine gate_dst (N:=9) rfl ?_);refine box_event ?hg (N:=9) ?hd (cs:=Z.toArray) (t:=24) ?hr ?_;(case hd=>rfl);(case hg=>rfl);(case hr=>first | (simp [execOp,Instr.alloc,HAL.out,newVar,newRow,go_sem];done) | (simp [execOp,Instr.alloc,HAL.out,newVar,newRow,go_sem];rfl) | (go_simp;done) | (go_simp;rfl));intro gk hg_ w9 hbox_ hb_;have hr_ : Lies w9 gk Z:=Lies.box hbox_;have GK:=am hg_;have LK9:=am hr_;have B9:=am hb_;clear hr_;clear hg_ hbox_ hb_)
  | ((with_reducible refine gate_store (t:=24) (p:=9) rfl ?_);refine wpList_store_mid rfl 24 _ _ rfl gk 0 LK.toArray rfl rfl (by rw [List.size_toArray,HLKl.out];exact LK9.out.part_there 0 4 (by rw [HZl.out];decide)) (by rw [List.size_toArray,HLKl.out];exact info_call) (all_oneCell_toArray HLKo.out) ?_))
 have z7:=HK7.out.size;have z8:=B8.out.size;have z9:=B9.out.size;have ek:=GK.out;have bw:=HBw.out;have hlt4:=Hlt.out;have hlt5:=Hlt5.out;have Rl:=HR7.out.reader.lt (by simp);have gcl:=HR7.out.one.lt HR7.out.p1;have gnl:=HR7.out.two.lt HR7.out.p2
 have n0_ : Lies (w9.setCells gk 0 LK) gk LK:=by have:=LK9.out.splice 0 LK (by rw [HLKl.out,HZl.out];decide);rwa [List.take_zero,List.nil_append,List.drop_of_length_le (by rw [HLKl.out,HZl.out];decide),List.append_nil] at this
 have k9_ : Kept (fun k=>k = gk) w9 (w9.setCells gk 0 LK):=kept_setCells gk 0 LK w9;have r0_:=((HR7.out.below B8.out).below B9.out).kept k9_ (fun k hk=>by have hk' : k = gk:=hk;omega) (by show ¬ R = gk;omega) (by show ¬ gc = gk;omega) (by show ¬ gn = gk;omega);have m7_ : Lies w7 g4 Z:=H4E.out.kept HK7.out (by rw [HZl.out];decide) (by show ¬ g4 = R;exact Hne.out.1);have g4l:=m7_.lt (by rw [HZl.out];decide);have m0_:=((m7_.below B8.out g4l).below B9.out (by omega)).kept k9_ (by rw [HZl.out];decide) (by show ¬ g4 = gk;omega);have rk7_ : k24.R 24 w7 B okk (.slice A3 ks.length cc3) ks:=Kd.R_step HRK0.out (fun k ho hl=>HK7.out.block k hl (by rw [Hokk.out] at ho;exact ho.1));have own7_ : ∀ k,(Value.slice A3 ks.length cc3).ownBlock = some k → k < w7.heap.size:=fun k hk=>(Kd.R_bound rk7_).1 k hk |>.2.2.1;have rk9_:=Kd.R_below (Kd.R_below rk7_ B8.out) B9.out
 have rk0_ : k24.R 24 (w9.setCells gk 0 LK) B (fun k=>okk k ∧ k ≠ gk) (.slice A3 ks.length cc3) ks:=by
  have h8:=Kd.R_below rk7_ B8.out;have h8b : k24.R 24 w8 B (fun k=>okk k ∧ k < w8.heap.size) (.slice A3 ks.length cc3) ks:=Kd.R_mono (Kd.R_bound h8) (fun k h=>⟨h.1,h.2.2.1⟩);have h9:=Kd.R_below h8b B9.out;exact Kd.R_mono (Kd.R_step h9 (fun k ho hl=>k9_.block k hl (by show ¬ k = gk;have:=ho.2;omega))) (fun k h=>⟨h.1,by have:=h.2;omega⟩)
 have b0_ : Below B w (w9.setCells gk 0 LK):=below_setCells' gk (by omega) LK 0 w9 (((HK7.out.to_below HG.out bw (fun k hk=>by have hk' : k = R:=hk;omega)).trans (B8.out.mono (by omega))).trans (B9.out.mono (by omega)))
 have mk_ : ∀ kx,r = some kx → k24.M (w9.setCells gk 0 LK) B (fun k=>w7.heap.size ≤ k ∧ k < w8.heap.size) kx LK:=fun kx hx=>by
  have h8:=HMK.out kx hx;have h8b : k24.M w8 B (fun k=>w7.heap.size ≤ k ∧ k < w8.heap.size) kx LK:=k24.M_lower (by omega) (k24.M_mono (fun k h=>⟨h.2.1,h.2.2.1⟩) (k24.M_bound h8));exact Kd.M_step (Kd.M_below h8b B9.out) (fun k ho hl=>k9_.block k hl (by show ¬ k = gk;omega))
 have z0_:=k9_.size;generalize World.setCells _ _ _ _ = w10 at n0_ k9_ r0_ m0_ rk0_ b0_ mk_ z0_ ⊢;have HLK:=am n0_;have HR10:=am r0_;have L410:=am m0_;have HRK:=am rk0_;have B010:=am b0_;have HM10:=am mk_;have HS10 : Aside0 (w8.heap.size ≤ w10.heap.size ∧ w7.heap.size ≤ w8.heap.size ∧ B ≤ w7.heap.size ∧ R < w7.heap.size ∧ gc < w7.heap.size ∧ gn < w7.heap.size ∧ g4 < w7.heap.size ∧ gk < w10.heap.size):=⟨by omega,by omega,by omega,Rl,gcl,gnl,g4l,n0_.lt (by rw [HLKl.out];decide)⟩;have HOWN:=am own7_;have HGKn : Aside0 (B ≤ gk ∧ w8.heap.size ≤ gk):=⟨by omega,by omega⟩;clear n0_ k9_ r0_ m7_ m0_ rk7_ own7_ rk9_ rk0_ b0_ mk_ z0_ z7 z8 z9 ek bw hlt4 hlt5 Rl gcl gnl g4l
 cases r with
 | none=>
   have hnn : takenF (g + 1) l = none:=by rw [Htf.out,← HE.out,HST.out];rfl
   have HNN:=am hnn;clear hnn
   go_wp2_with (first
    | ((with_reducible refine gate_dst (N:=48) rfl ?_);refine wpList_load_mid rfl 24 _ rfl gc 0 rfl LC _ (by have:=HR10.out.one.range;rw [← HLC.out] at this;exact this) Tryd.underlying24 rfl (by rw [HLCl.out];exact info_call) ?_)
    | ((with_reducible refine gate_store (t:=24) (p:=4) rfl ?_);refine wpList_store_mid rfl 24 _ _ rfl g4 0 LC.toArray rfl rfl (by rw [List.size_toArray,HLCl.out];exact L410.out.part_there 0 4 (by rw [HZl.out];decide)) (by rw [List.size_toArray,HLCl.out];exact info_call) (all_oneCell_toArray HLCo.out) ?_))
   have BR:=World.rangeAt_setCells_same w10 g4 0 LC (by rw [HLCl.out];exact L410.out.part_there 0 4 (by rw [HZl.out];decide));have hres:=run_loadVar_mid (P:=Tryd.prog) (w10.setCells g4 0 LC) g4 0 24 LC _ BR Tryd.underlying24 rfl (by rw [HLCl.out];exact info_call);refine bodyPost_ret (results_cell_tmp rfl _ rfl hres) rfl ?_;refine ⟨⟨LC,by rw [HNN.out];rfl,HLCl.out,HLCo.out,fun x hx=>by rw [HNN.out] at hx;cases hx⟩,below_setCells' g4 G4n.out LC 0 w10 B010.out⟩
 | some kx=>
   have hnx : kidsA (takenF g) (n - (x + 1)).toNat l2 ok2 (ks ++ [kx]) = kidsA (takenF g) n.toNat body true []:=by rw [← HE.out,HST.out];rfl
   have HNX:=am hnx;obtain ⟨okg,hokg⟩ : ∃ okg : Nat → Prop,okg = fun k=>okk k ∧ k ≠ gk:=⟨_,rfl⟩;have HRKd : Aside0 (k24.R 24 w10.drew B okg (.slice A3 ks.length cc3) ks):=⟨by rw [hokg];exact Kd.R_step HRK.out (fun k _ _=>rfl)⟩;have HBd : Aside0 (Below B w w10.drew):=⟨below_drew B010.out⟩
   have HFR : Aside0 (∀ k,w10.drew.heap.size ≤ k → okg k):=⟨fun k hk=>by
    have hk' : w10.heap.size ≤ k:=hk;have:=HS10.out;rw [hokg,Hokk.out]
    refine ⟨⟨?_,?_,?_,?_⟩,?_⟩ <;> omega⟩
   have HKL4 : Aside0 (ks.length ≤ 4):=⟨by have:=HKL.out;omega⟩
   have hoq : ∀ k,okg k → k ≠ R ∧ k ≠ gc ∧ k ≠ gn ∧ k ≠ g4:=fun k hk=>by rw [hokg,Hokk.out] at hk;exact hk.1
   have hown : ∀ k,(Value.slice A3 ks.length cc3).ownBlock = some k → okg k ∧ B ≤ k:=fun k hk=>⟨HRKd.out.1 k hk,Kd.R_base HRKd.out k hk⟩
   have HAP : Aside0 (∀ w11,w10.drew.grownBy w11 (Value.slice A3 ks.length cc3).ownBlock → w11.cell? ⟨gc,3,none⟩ = some (.slice A3 ks.length cc3) ∧ w11.rangeAt gk 0 LK):=⟨fun w11 hg=>by
    have hk:=Kept.of_grown hg
    exact ⟨(HR10.out.drew.one.kept hk HR10.out.p1 (fun e=>(hoq gc (hown gc e.symm).1).2.1 rfl)).cell (i:=3) rfl,(HLK.out.drew.kept hk (by rw [HLKl.out];decide) (fun e=>by have:=(hown gk e.symm).1;rw [hokg] at this;exact this.2 rfl)).range⟩⟩
   have HPUT:=am (fun (w11 : World) (bv cap : Nat) (hRA : k24.R 24 w11 B okg (.slice (some ⟨bv,0,none⟩) (ks.length + 1) cap) (ks ++ [z24])) (hB : Below B w w11) (hg : w10.drew.grownBy w11 (Value.slice A3 ks.length cc3).ownBlock)
    (hat : (Value.slice (some ⟨bv,0,none⟩) (ks.length + 1) cap).ownBlock = (Value.slice A3 ks.length cc3).ownBlock ∨ ∃ q,(Value.slice (some ⟨bv,0,none⟩) (ks.length + 1) cap).ownBlock = some q ∧ w10.drew.heap.size ≤ q)=>
    grow_kids (okK:=fun k=>w7.heap.size ≤ k ∧ k < w8.heap.size) HR10.out.drew L410.out.drew (by rw [HZl.out];decide) Hne.out hoq (Kd.M_step (w1:=w10.drew) (HM10.out kx rfl) (fun k _ _=>rfl)) (fun k hk=>by
     have:=HS10.out;have hg4:=HGKn.out;refine ⟨?_,?_,fun e=>?_⟩
     ·rw [hokg,Hokk.out];refine ⟨⟨?_,?_,?_,?_⟩,?_⟩ <;> omega
     ·show k < w10.heap.size;omega
     ·have:=HOWN.out k e.symm;omega) hown hRA hB (by show B ≤ w10.heap.size;have:=HS10.out;omega) hg hat)
   rw [← show okg = (fun k=>okk k ∧ k ≠ gk) from hokg] at HRK
   have hmonog : ∀ k,okg k → okk k:=fun k h=>by rw [hokg] at h;exact h.1
   have HMG:=am hmonog;clear hnx hoq hown hokg hmonog;have s3 : w10.drew.cell? ⟨gc,3,none⟩ = some (.slice A3 ks.length cc3):=HR10.out.drew.one.cell (i:=3) rfl
   go_upto_region 12 with (fail)
   refine start_ (n:=10) (S:=fun w'=>w'.cell? ⟨gc,3,none⟩ = some (.slice A3 ks.length cc3) ∧ w'.rangeAt gk 0 LK) (ds:=[7,9]) (bl 10 0) (by kernel_rfl) rfl rfl ⟨s3,(World.rangeAt_drew _ _ _ _).2 HLK.out.range⟩ (fun hHeld=>?_);refine with_tabW taken_r12.tab taken_r12.bits (fun HT_ HW_=>?_);refine p_ HT_ 0 (some 49) taken_r12.l0 ?_;refine tk HT_ HW_ hHeld 1 (some 50) taken_r12.l1 (hr:=by intro w' hs_;obtain ⟨s0,s1⟩:=hs_;go_simp;with_reducible rfl) (h:=?_);refine take_ (i:=2) (N:=some 51) (v:= .agg LK.toArray) (a':=?_) taken_r12.l2 rfl rfl (take_ofW HT_.out HW_.out (by kernel_rfl)) (fun _ _ _ h=>h) (Or.inl ⟨by rfl,?_⟩) hHeld ?_ ?_
   ·intro w' hs_;exact load_runO' (ty:=24) (y:= .tmp 9) (g:=gk) (off:=0) (L:=LK) rfl rfl hs_.2 Tryd.underlying24 rfl (by rw [HLKl.out];exact info_call)
   rotate_left
   ·simp only [Act.put,List.setIfInBounds_toArray,List.set_cons_zero,List.set_cons_succ,i64_w,i32_w]
    rfl
   refine p_ HT_ 3 (some 52) taken_r12.l3 ?_;refine o_ HT_ 4 (some 53) taken_r12.l4 fun K hK=>?_;refine value_ (v:= .slice (some ⟨w10.drew.heap.size,0,none⟩) 1 1) (w1:=w10.drew.alloc (.cells zeroC.toArray 24)) (by rfl) rfl ?_ ?_
   ·go_simp
    try rfl
   have hb_ : Below w10.drew.heap.size w10.drew (w10.drew.alloc (.cells zeroC.toArray 24)):=below_alloc (Below.refl _ _) _;have hHeld : (w10.drew.alloc (.cells zeroC.toArray 24)).cell? ⟨gc,3,none⟩ = some (.slice A3 ks.length cc3) ∧ (w10.drew.alloc (.cells zeroC.toArray 24)).rangeAt gk 0 LK:=⟨(HR10.out.drew.below hb_).one.cell (i:=3) rfl,(HLK.out.drew.below hb_ (HLK.out.drew.lt (by rw [HLKl.out];decide))).range⟩;clear hb_;refine hK.out _ _ hHeld (fun hHeld=>?_);clear hK K;refine nm (some 53) ?_;refine o_ HT_ 5 (some 54) taken_r12.l5 fun K hK=>?_;refine Kd.R_append_step k24 (w0:=w) B (by rfl) (.tmp 50) (.tmp 53) 22 24 (.agg zeroC.toArray) 48 rfl Tryd.underlying22 info_callz rfl (by decide) (by decide) (.slice A3 ks.length cc3) ks z24 zeroC okg (fun _=>False) rfl rfl (zero_M _ _ _) (fun _ h=>h.elim) HFR.out HRKd.out HBd.out (by have:=HS10.out;show B ≤ w10.heap.size;omega) (by have:=HKL4.out;omega) ?_;intro v1 w11 hR_ hb_ hg_ hat_;obtain ⟨bv,cap,hv_,hcap_⟩:=R_shape hR_ (by simp) (by decide);subst hv_;rw [List.length_append,show ([z24] : List S24).length = 1 from rfl] at hR_ hcap_ hat_ ⊢;have hHeld : w11.cell? ⟨gc,3,none⟩ = some (.slice A3 ks.length cc3) ∧ w11.rangeAt gk 0 LK:=HAP.out _ hg_;have HGK:=am (HPUT.out w11 bv cap hR_ hb_ hg_ hat_);clear hR_ hb_ hg_ hat_;refine hK.out _ _ hHeld (fun hHeld=>?_);clear hK K;refine nm (some 54) ?_;refine pure_ (i:=6) (N:=some 55) (v:= .pointer (some ⟨bv,ks.length * 4,none⟩)) (a':=?_) taken_r12.l6 rfl rfl (any_of HT_.out (by kernel_rfl)) (fun _ _ _ h=>h) (Or.inl ⟨by rfl,?_⟩) ?_ ?_
   ·intro w';go_simp;intro h_;exfalso;omega
   rotate_left
   ·simp only [Act.put,List.setIfInBounds_toArray,List.set_cons_zero,List.set_cons_succ,i64_w,i32_w]
    rfl
   refine p_ HT_ 8 (some 56) taken_r12.l7 ?_;refine two_l (i:=7) (j:=9) (Ni:=none) (Nj:=none) taken_r12.l9 taken_r12.l10 rfl rfl rfl rfl (two_of HT_.out (by kernel_rfl)) (by decide) (by decide) (fun K hK=>?_) (fun K hK=>?_)
   ·refine skip_ (w1:=w11.setCells bv (ks.length * 4) LK) (by rfl) rfl ?_ ?_
    ·exact store_runO' (x:= .tmp 55) (y:= .tmp 51) (off:=ks.length * 4) rfl rfl rfl (by rw [HLKl.out];exact HGK.out.1) (by rw [HLKl.out];exact info_call) HLKo.out
    refine hK.out _ _ ?_;clear hK K;have q3:=HGK.out.2.2.1.1;have f3:=HGK.out.2.2.1.2;refine last_ (i:=9) (N:=none) taken_r12.l8 rfl rfl (one_of HT_.out (by kernel_rfl)) (by decide) (fun K hK=>?_);refine skip_ (w1:=(w11.setCells bv (ks.length * 4) LK).setCell ⟨gc,3,none⟩ (.slice (some ⟨bv,0,none⟩) (ks.length + 1) cap)) (by rfl) rfl ?_ ?_
    ·go_simp
    refine hK.out _ _ ?_;clear hK K q3 f3;have HFN:=am (HGK.out.2.2.2.2 _ (.inl rfl));generalize World.setCell _ _ _ = wz at HFN ⊢;refine done_ (done_of HT_.out (by kernel_rfl)) ?_;clear HT_ HW_ hHeld
    go_wp2
    exact ⟨⟨x + 1,by first | rfl | (rw [xw]) | (simp [xw]),⟨by omega,by omega⟩,⟨A2,c2,l2,ok2,ks ++ [kx],.slice (some ⟨bv,0,none⟩) (ks.length + 1) cap,HFN.out.1,HFN.out.2.1,Kd.R_mono HFN.out.2.2.1 HMG.out,by rw [List.length_append];have:=HKL.out;have e1 : ([kx] : List S24).length = 1:=rfl;omega,HNX.out⟩,⟨HFN.out.2.2.2⟩⟩,by simp [intOf];omega⟩
   ·have q3:=hHeld.1;have f3:=HGK.out.2.1;refine skip_ (w1:=w11.setCell ⟨gc,3,none⟩ (.slice (some ⟨bv,0,none⟩) (ks.length + 1) cap)) (by rfl) rfl ?_ ?_
    ·go_simp
    refine hK.out _ _ ?_;clear hK K q3 f3;refine last_ (i:=7) (N:=none) taken_r12.l8 rfl rfl (one_of HT_.out (by kernel_rfl)) (by decide) (fun K hK=>?_);refine skip_ (w1:=(w11.setCell ⟨gc,3,none⟩ (.slice (some ⟨bv,0,none⟩) (ks.length + 1) cap)).setCells bv (ks.length * 4) LK) (by rfl) rfl ?_ ?_
    ·exact store_runO' (x:= .tmp 55) (y:= .tmp 51) (off:=ks.length * 4) rfl rfl rfl (by rw [HLKl.out];exact HGK.out.2.2.2.1) (by rw [HLKl.out];exact info_call) HLKo.out
    refine hK.out _ _ ?_;clear hK K;have HFN:=am (HGK.out.2.2.2.2 _ (.inr rfl));generalize World.setCells _ _ _ _ = wz at HFN ⊢;refine done_ (done_of HT_.out (by kernel_rfl)) ?_;clear HT_ HW_ hHeld
    go_wp2
    exact ⟨⟨x + 1,by first | rfl | (rw [xw]) | (simp [xw]),⟨by omega,by omega⟩,⟨A2,c2,l2,ok2,ks ++ [kx],.slice (some ⟨bv,0,none⟩) (ks.length + 1) cap,HFN.out.1,HFN.out.2.1,Kd.R_mono HFN.out.2.2.1 HMG.out,by rw [List.length_append];have:=HKL.out;have e1 : ([kx] : List S24).length = 1:=rfl;omega,HNX.out⟩,⟨HFN.out.2.2.2⟩⟩,by simp [intOf];omega⟩
theorem taken_at : ∀ (f : Nat) (d : Int),d + f = 4 → 0 ≤ d → TakenAt f d:=by
 intro f
 induction f with
 | zero=>intro d hd h0;exact taken_step 0 d hd h0 (fun g hg=>by omega)
 | succ f ih=>
   intro d hd h0;refine taken_step (f + 1) d hd h0 (fun g hg=>?_)
   have e : f = g:=by omega
   subst e;exact ih (d + 1) (by omega) (by omega)
end Go.Proofs.YtilckocpgififaaDoor.G
/- code.DecodeCall: bytes as a call, or refused. -/
namespace Go.Proofs.YtilckocpgififaaDoor.G
open Go.RowKit Go.Shelf Go.Proofs.YtilckocpgififaaDoorW.PrintWords Go.Proofs.YtilckocpgififaaDoorW.PrintLast Go.Proofs.YtilckocpgififaaDoorW.PrintMore Go.Proofs.YtilckocpgififaaDoor.PNum
set_option linter.unusedVariables false
set_option linter.unusedSimpArgs false
def keepC : Option S24 → Option S24
 | some x=>if okT 3 x = true then some x else none
 | none=>none
def errOf {α : Type} : Option α → Int
 | some _=>0
 | none=>2
def decF (l : List Int) : Option S24:=keepC (takenF 4 l)
set_option maxRecDepth 100000 in
set_option maxHeartbeats 16000000 in
theorem decode_calls (A : Option Addr) (c : Nat) (l : List Int) (w : World) (hC : Kd.C (Kd.int .u8) w A l.length l) (hc : l.length ≤ c) (hb : IsBytes l) (hs : l.length < 140737488355328) :
 Calls Tryd.prog 11 #[.slice A l.length c] w fun e w'=>
  (∃ L : List Value,e = .returned (.tuple #[.agg L.toArray,.int .i64 (errOf (decF l))]) ∧ L.length = 4 ∧ (∀ v ∈ L,v.oneCell' = true) ∧ k24.M w' w.heap.size (fun _=>True) ((decF l).getD z24) L) ∧ Below w.heap.size w w':=by
 obtain ⟨Z,hZ⟩ : ∃ Z,Z = zeroC:=⟨_,rfl⟩
 have hZl : Z.length = 4:=by rw [hZ];rfl
 have hZo : ∀ v ∈ Z,v.oneCell' = true:=by rw [hZ];intro v hv;simp [zeroC] at hv;rcases hv with rfl | rfl | rfl | rfl <;> rfl
 have HAL : Aside0 (∀ w,(zeroValue 24).run Tryd.prog w = .ok (.agg Z.toArray) w):=⟨fun w=>by rw [hZ];exact zero_runC w⟩;have HBZ : Aside0 (∀ w,(Instr.build 24 #[]).run Tryd.prog w = .ok (.agg Z.toArray) w):=⟨fun w=>by rw [hZ];exact run_build w _ _ _ built_call⟩;have HZM : Aside0 (∀ w b ok,k24.M w b ok z24 Z):=⟨fun w b ok=>by rw [hZ];exact zero_M w b ok⟩;have HZl:=am hZl;have HZo:=am hZo;have HC:=am hC;have Hc:=am hc;have Hb:=am hb;have Hs:=am hs;clear hZ hZl hZo hC hc hb hs;go_enter Tryd.func11,Tryd.ntmps11
 go_upto_region 1 with ((with_reducible refine gate_dst (N:=2) rfl ?_);refine box_event ?hg (N:=2) ?hd (cs:=Z.toArray) (t:=24) ?hr ?_;(case hd=>rfl);(case hg=>rfl);(case hr=>first | (simp [execOp,Instr.alloc,HAL.out,newVar,newRow,go_sem];done) | (simp [execOp,Instr.alloc,HAL.out,newVar,newRow,go_sem];rfl));intro g2 hg_ w1 hbox_ hb_;have h2_ : Lies w1 g2 Z:=Lies.box hbox_;have G2:=am hg_;have L21:=am h2_;have B1:=am hb_;clear h2_;clear hg_ hbox_ hb_)
 go_upto_region 2 with (first
  | (go_at_call 23;have hT_:=taken_at 4 0 (by omega) (by omega) A c l w1 (Kd.C_below HC.out B1.out) Hc.out Hb.out Hs.out;with_reducible refine hT_.mono ?_;clear hT_;rintro e w2 ⟨⟨L,rfl,hLl_,hLo_,hM_⟩,hb_⟩;have HLl:=am hLl_;have HLo:=am hLo_;have HM:=am hM_;have B2:=am hb_;clear hLl_ hLo_ hM_ hb_)
  | ((with_reducible refine gate_dst (N:=4) rfl ?_);refine box_event ?hg (N:=4) ?hd (cs:=Z.toArray) (t:=24) ?hr ?_;(case hd=>rfl);(case hg=>rfl);(case hr=>first | (simp [execOp,Instr.alloc,HAL.out,newVar,newRow,go_sem];done) | (simp [execOp,Instr.alloc,HAL.out,newVar,newRow,go_sem];rfl));intro g4 hg_ w3 hbox_ hb_;have h4_ : Lies w3 g4 Z:=Lies.box hbox_;have G4:=am hg_;have L43:=am h4_;have B3:=am hb_;clear h4_;clear hg_ hbox_ hb_)
  | ((with_reducible refine gate_store (t:=24) (p:=4) rfl ?_);refine wpList_store_mid rfl 24 _ _ rfl g4 0 L.toArray rfl rfl (by rw [List.size_toArray,HLl.out,← HZl.out];exact L43.out.there) (by rw [List.size_toArray,HLl.out];exact info_call) (all_oneCell_toArray HLo.out) ?_))
 have s1:=B1.out.size;have s2:=B2.out.size;have s3:=B3.out.size;have e2:=G2.out;have e4:=G4.out;have g2lt : g2 < w1.heap.size:=L21.out.lt (by rw [HZl.out];decide);have g4lt : g4 < w3.heap.size:=L43.out.lt (by rw [HZl.out];decide)
 have n4_ : Lies (w3.setCells g4 0 L) g4 L:=by have:=L43.out.splice 0 L (by rw [HLl.out,HZl.out];decide);rwa [List.take_zero,List.nil_append,List.drop_of_length_le (by rw [HLl.out,HZl.out];decide),List.append_nil] at this
 have k_ : Kept (fun k=>k = g4) w3 (w3.setCells g4 0 L):=kept_setCells g4 0 L w3;have n2_:=((L21.out.below B2.out g2lt).below B3.out (by omega)).kept k_ (by rw [HZl.out];decide) (by show ¬ g2 = g4;omega);have b_ : Below w.heap.size w (w3.setCells g4 0 L):=below_setCells' g4 (by omega) L 0 w3 (below_step (below_step B1.out B2.out) B3.out)
 have m_ : ∀ x,takenF 4 l = some x → k24.M (w3.setCells g4 0 L) w1.heap.size (fun k=>k < w2.heap.size) x L:=fun x hx=>by
  have h:=k24.M_mono (fun k h=>h.2.2.1) (k24.M_bound (HM.out x hx));refine Kd.M_step (Kd.M_below h B3.out) (fun k ho hl=>k_.block k hl ?_)
  show ¬ k = g4
  omega
 have z_ : w3.heap.size ≤ (w3.setCells g4 0 L).heap.size:=k_.size;generalize World.setCells _ _ _ _ = w4 at n4_ n2_ b_ m_ k_ z_ ⊢;have L44:=am n4_;have L24:=am n2_;have B04:=am b_;have HM4:=am m_;have Hlt : Aside0 (w.heap.size ≤ g2 ∧ g2 < w1.heap.size ∧ w2.heap.size ≤ g4 ∧ w.heap.size ≤ w1.heap.size ∧ w1.heap.size ≤ w2.heap.size ∧ g4 < w4.heap.size ∧ w2.heap.size ≤ w4.heap.size):=⟨by omega,by omega,by omega,by omega,by omega,by omega,by omega⟩;clear n4_ n2_ b_ m_ k_ z_ s1 s2 s3 e2 e4 g2lt g4lt HM
 cases hT : takenF 4 l with
 | none=>
   have hD : decF l = none:=by unfold decF;rw [hT];rfl
   have HD:=am hD;have HT:=am hT;clear hT hD;simp only [Option.isSome_none]
   go_wp2_with (first
    | ((with_reducible refine gate_dst (N:=18) rfl ?_);refine Kd.event_run (v:= .agg Z.toArray) (w1:=w4) rfl (build_run0' rfl (HBZ.out w4)) ?_)
    | ((with_reducible refine gate_store (t:=24) (p:=2) rfl ?_);refine wpList_store_mid rfl 24 _ _ rfl g2 0 Z.toArray rfl rfl (by rw [List.size_toArray];exact L24.out.there) (by rw [List.size_toArray,HZl.out];exact info_call) (all_oneCell_toArray HZo.out) ?_))
   have BR:=World.rangeAt_setCells_same w4 g2 0 Z L24.out.there;have hres:=run_loadVar_mid (P:=Tryd.prog) (w4.setCells g2 0 Z) g2 0 24 Z _ BR Tryd.underlying24 rfl (by rw [HZl.out];exact info_call);refine bodyPost_ret (results_cell_tmp rfl _ rfl hres) rfl ?_;refine ⟨⟨Z,?_,HZl.out,HZo.out,?_⟩,below_setCells' g2 Hlt.out.1 Z 0 w4 B04.out⟩
   ·rw [HD.out];rfl
   ·rw [HD.out];exact HZM.out _ _ _
 | some x=>
   have HT:=am hT;have hM:=HM4.out x hT;obtain ⟨A3,c3,rfl,l3,hC3⟩:=k24_open (k24.K_of_M hM);have p0:=L44.out.cell (i:=0) rfl;have p1:=L44.out.cell (i:=1) rfl;have p2:=L44.out.cell (i:=2) rfl;have p3:=L44.out.cell (i:=3) rfl;have HC3:=am hC3;have Hl3:=am l3;have HM5:=am hM;clear hT hM hC3 l3;simp only [Option.isSome_some];obtain ⟨r,hr⟩ : ∃ r,okT 3 x = r:=⟨_,rfl⟩;have HR:=am hr;have hcall:=isCall_tells x;rw [hr] at hcall;have HCALL:=am hcall;clear hr hcall
   cases r with
   | false=>
     have HD : Aside0 (decF l = none):=⟨by unfold decF;rw [HT.out];show (if okT 3 x = true then some x else none) = none;rw [HR.out];rfl⟩
     go_upto_region 3 with (go_at_call 14;with_reducible refine (code_IsCall.calls _ _ _ A3 c3 x.f3 false w4 HC3.out Hl3.out HCALL.out).mono ?_;rintro e w5 ⟨rfl,hb5_⟩;have B5:=am hb5_;clear hb5_)
     have L25:=am (L24.out.below B5.out (by have:=Hlt.out;omega));have B05:=am (B04.out.trans (B5.out.mono B04.out.size))
     go_wp2_with (first
      | ((with_reducible refine gate_dst (N:=18) rfl ?_);refine Kd.event_run (v:= .agg Z.toArray) (w1:=w5) rfl (build_run0' rfl (HBZ.out w5)) ?_)
      | ((with_reducible refine gate_store (t:=24) (p:=2) rfl ?_);refine wpList_store_mid rfl 24 _ _ rfl g2 0 Z.toArray rfl rfl (by rw [List.size_toArray];exact L25.out.there) (by rw [List.size_toArray,HZl.out];exact info_call) (all_oneCell_toArray HZo.out) ?_))
     have BR:=World.rangeAt_setCells_same w5 g2 0 Z L25.out.there;have hres:=run_loadVar_mid (P:=Tryd.prog) (w5.setCells g2 0 Z) g2 0 24 Z _ BR Tryd.underlying24 rfl (by rw [HZl.out];exact info_call);refine bodyPost_ret (results_cell_tmp rfl _ rfl hres) rfl ?_;refine ⟨⟨Z,?_,HZl.out,HZo.out,?_⟩,below_setCells' g2 Hlt.out.1 Z 0 w5 B05.out⟩
     ·rw [HD.out];rfl
     ·rw [HD.out];exact HZM.out _ _ _
   | true=>
     have HD : Aside0 (decF l = some x):=⟨by unfold decF;rw [HT.out];show (if okT 3 x = true then some x else none) = some x;rw [HR.out];rfl⟩
     go_upto_region 4 with (go_at_call 14;with_reducible refine (code_IsCall.calls _ _ _ A3 c3 x.f3 true w4 HC3.out Hl3.out HCALL.out).mono ?_;rintro e w5 ⟨rfl,hb5_⟩;have B5:=am hb5_;clear hb5_)
     have L25:=am (L24.out.below B5.out (by have:=Hlt.out;omega));have L45:=am (L44.out.below B5.out (by have:=Hlt.out;omega));have B05:=am (B04.out.trans (B5.out.mono B04.out.size));clear p0 p1 p2 p3;obtain ⟨L,hL⟩ : ∃ L,L = [Value.int .i64 x.f0,.int .i64 x.f1,.int .i64 x.f2,.slice A3 x.f3.length c3]:=⟨_,rfl⟩;rw [← hL] at L45 HLl HLo HM5;clear hL
     go_wp2_with (first
      | ((with_reducible refine gate_dst (N:=19) rfl ?_);refine wpList_load_mid rfl 24 _ rfl g4 0 rfl L _ L45.out.range Tryd.underlying24 rfl (by rw [HLl.out];exact info_call) ?_)
      | ((with_reducible refine gate_store (t:=24) (p:=2) rfl ?_);refine wpList_store_mid rfl 24 _ _ rfl g2 0 L.toArray rfl rfl (by rw [List.size_toArray,HLl.out,← HZl.out];exact L25.out.there) (by rw [List.size_toArray,HLl.out];exact info_call) (all_oneCell_toArray HLo.out) ?_))
     have BR:=World.rangeAt_setCells_same w5 g2 0 L (by rw [HLl.out,← HZl.out];exact L25.out.there);have hres:=run_loadVar_mid (P:=Tryd.prog) (w5.setCells g2 0 L) g2 0 24 L _ BR Tryd.underlying24 rfl (by rw [HLl.out];exact info_call);refine bodyPost_ret (results_cell_tmp rfl _ rfl hres) rfl ?_;refine ⟨⟨L,?_,HLl.out,HLo.out,?_⟩,below_setCells' g2 Hlt.out.1 L 0 w5 B05.out⟩
     ·rw [HD.out];rfl
     ·rw [HD.out];have h1 : k24.M w4 w.heap.size (fun k=>w1.heap.size ≤ k ∧ k < w4.heap.size) x L:=k24.M_lower Hlt.out.2.2.2.1 (k24.M_mono (fun k h=>⟨h.2.1,h.2.2.1⟩) (k24.M_bound HM5.out));exact k24.M_mono (fun _ _=>trivial) (Kd.M_step (Kd.M_below h1 B5.out) (fun k ho hl=>(kept_setCells g2 0 L w5).block k hl (by show ¬ k = g2;have:=Hlt.out;have:=ho.1;omega)))
end Go.Proofs.YtilckocpgififaaDoor.G
