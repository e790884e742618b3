/- The document's numbers as bytes (althingref1), plainly: the same as compact's. -/
import Derived.Test.YtilckocpgififaaDoorScHStep
import Derived.Test.YtilckocpgififaaDoorScPTake
import Derived.Test.YtilckocpgififaaDoorScGx9
import Derived.IntWalk
import Derived.Test.YtilckocpgififaaDoorScHSeq
import Derived.Test.YtilckocpgififaaDoorScGx7
import Derived.Test.YtilckocpgififaaDoorScGx6
import Derived.Test.YtilckocpgififaaDoorScGx3
namespace Go.Proofs.YtilckocpgififaaDoor.PNum
open Go.RowKit Go.Proofs.YtilckocpgififaaDoor.G Go.Proofs.YtilckocpgififaaDoorW.PrintWords Go.Proofs.YtilckocpgififaaDoorW.PrintMore Go.Proofs.YtilckocpgififaaDoorW.PrintLast
set_option linter.unusedVariables false
set_option linter.unusedSimpArgs false
theorem i64_low (n : Int) (h0 : 0 ≤ n) (h1 : n < 2 ^ 63) : IntKind.i64.wrap n = n:=by
 have : n < 9223372036854775808:=by have e : (2 : Int) ^ 63 = 9223372036854775808:=by decide
                                    rw [e] at h1;exact h1
 rw [i64_w];exact wrap_in h0 (by omega)
theorem or_small (x y : Int) (i : Nat) (hx : 0 ≤ x) (hm : x % 2 ^ i = 0) (hx1 : x < 9223372036854775808) (hy : 0 ≤ y) (hy1 : y < 2 ^ i) (hy2 : y < 9223372036854775808) : Go.bits .or .i64 x y = x + y:=
 bits_join .i64 63 (by decide) i64_low i x y hx hm (by rw [show (2 : Int) ^ 63 = 9223372036854775808 from by decide];exact hx1) hy hy1 (by rw [show (2 : Int) ^ 63 = 9223372036854775808 from by decide];exact hy2)
theorem u64_at (i : Nat) (h : i ≤ 100) : IntKind.u64.wrap (wrap64 (8 * (i : Int))) = ((8 * i : Nat) : Int):=by
 rw [wrap_in (by omega) (by omega),IntKind.wrap_u64];omega
/-! ### low, Num -/
theorem lowB_snoc (n : Int) (s : Nat) : lowB n (s + 1) = lowB n s ++ [n / 2 ^ (8 * s) % 256]:=by
 induction s generalizing n with
 | zero=>simp [lowB]
 | succ s ih=>
   have h:=ih (n / 256);rw [lowB,h,lowB,List.cons_append]
   congr 3
   rw [Int.ediv_ediv_of_nonneg (by decide)]
   congr 2
   rw [show 8 * (s + 1) = 8 + 8 * s from by omega,Int.pow_add]
   rfl
theorem rlow_loop (n : Int) (s : Nat) (hs : s ≤ 8) (d : Nat) : ∀ (k i : Nat),i + d = s → d < k → althingref1_low.l0 k n s (lowB n i) i = some (lowB n s):=by
 induction d with
 | zero=>
   intro k i hi hk;obtain ⟨k,rfl⟩ : ∃ q,k = q + 1:=⟨k - 1,by omega⟩
   obtain rfl : i = s:=by omega
   rw [althingref1_low.l0,if_neg (by omega)]
 | succ d ih=>
   intro k i hi hk;obtain ⟨k,rfl⟩ : ∃ q,k = q + 1:=⟨k - 1,by omega⟩
   have e1 : wrap64 ((i : Int) + 1) = ((i + 1 : Nat) : Int):=by rw [wrap_in (by omega) (by omega)];omega
   have hl:=lowB_length n i;rw [althingref1_low.l0,if_pos (by omega),u64_at i (by omega),if_pos (by omega),if_pos (by omega),shr_at _ _ (by omega),e1,← lowB_snoc];exact ih k (i + 1) (by omega) (by omega)
theorem rlow_tells (k : Nat) (n : Int) (s : Nat) (hs : s ≤ 8) (hk : s < k) : althingref1_low.f k n s = some (lowB n s):=rlow_loop n s hs s k 0 (by omega) hk
theorem rnum_end (k : Nat) (n : Int) (x : Nat) (h4 : 4 ≤ x) (h8 : x ≤ 8) (hk : 9 < k) :
 ((some (([(Go.bits .or .i64 (wrap64 ((wrap64 ((x : Int) - 4)) * 4)) 3) % 256] : List Int) : List Int)).bind fun y184=>((althingref1_low.f k n (x : Int)).bind fun t187=>(if y184.length + t187.length < 140737488355328 then (some (y184 ++ t187)) else (none)))) =
   some ((4 * ((x : Int) - 4) + 3) :: lowB n x):=by
 have e1 : wrap64 ((x : Int) - 4) = (x : Int) - 4:=wrap_in (by omega) (by omega);have e2 : wrap64 (((x : Int) - 4) * 4) = ((x : Int) - 4) * 4:=wrap_in (by omega) (by omega);have e3 : Go.bits .or .i64 (((x : Int) - 4) * 4) 3 = ((x : Int) - 4) * 4 + 3:=or_small _ _ 2 (by omega) (by omega) (by omega) (by decide) (by decide) (by decide)
 have e4 : (((x : Int) - 4) * 4 + 3) % 256 = 4 * ((x : Int) - 4) + 3:=by omega
 have hl:=lowB_length n x;rw [e1,e2,e3,e4,Option.bind_some,rlow_tells k n x h8 (by omega),Option.bind_some,if_pos (by rw [hl];simp;omega)]
 rfl
theorem rnum_step (k : Nat) (n : Int) (x : Nat) (h4 : 4 ≤ x) (hx : x < 8) (hk : 9 < k) :
 althingref1_Num.l0 (k + 1) n x = if n / 2 ^ (8 * x) > 0 then althingref1_Num.l0 k n ((x + 1 : Nat) : Int) else some ((4 * ((x : Int) - 4) + 3) :: lowB n x):=by
 have e1 : wrap64 ((x : Int) + 1) = ((x + 1 : Nat) : Int):=by rw [wrap_in (by omega) (by omega)];omega
 rw [althingref1_Num.l0,if_pos (by omega),u64_at x (by omega),if_pos (by omega),shr_at _ _ (by omega),e1,rnum_end k n x h4 (by omega) hk]
theorem rnum_last (k : Nat) (n : Int) (hk : 9 < k) : althingref1_Num.l0 (k + 1) n ((8 : Nat) : Int) = some ((4 * (((8 : Nat) : Int) - 4) + 3) :: lowB n 8):=by
 rw [althingref1_Num.l0,if_neg (by omega)];exact rnum_end k n 8 (by omega) (by omega) hk
theorem rnum_great (k : Nat) (n : Int) (hk : 15 ≤ k) : althingref1_Num.l0 k n 4 = some ((4 * ((widthN n : Int) - 4) + 3) :: lowB n (widthN n)):=by
 obtain ⟨k,rfl⟩ : ∃ m,k = m + 5:=⟨k - 5,by omega⟩;have s4:=rnum_step (k + 4) n 4 (by omega) (by omega) (by omega);have s5:=rnum_step (k + 3) n 5 (by omega) (by omega) (by omega);have s6:=rnum_step (k + 2) n 6 (by omega) (by omega) (by omega);have s7:=rnum_step (k + 1) n 7 (by omega) (by omega) (by omega);have s8:=rnum_last k n (by omega);have p4:=pos_div n (2 ^ (8 * 4)) (by decide);have p5:=pos_div n (2 ^ (8 * 5)) (by decide);have p6:=pos_div n (2 ^ (8 * 6)) (by decide);have p7:=pos_div n (2 ^ (8 * 7)) (by decide);rw [show ((2 : Int) ^ (8 * 4)) = 4294967296 from by decide] at s4 p4;rw [show ((2 : Int) ^ (8 * 5)) = 1099511627776 from by decide] at s5 p5;rw [show ((2 : Int) ^ (8 * 6)) = 281474976710656 from by decide] at s6 p6;rw [show ((2 : Int) ^ (8 * 7)) = 72057594037927936 from by decide] at s7 p7
 unfold widthN
 refine Eq.trans s4 ?_
 by_cases h4 : n < 4294967296
 ·rw [if_neg (by rw [p4];omega),if_pos h4]
 rw [if_pos (by rw [p4];omega),if_neg h4];refine Eq.trans s5 ?_
 by_cases h5 : n < 1099511627776
 ·rw [if_neg (by rw [p5];omega),if_pos h5]
 rw [if_pos (by rw [p5];omega),if_neg h5];refine Eq.trans s6 ?_
 by_cases h6 : n < 281474976710656
 ·rw [if_neg (by rw [p6];omega),if_pos h6]
 rw [if_pos (by rw [p6];omega),if_neg h6];refine Eq.trans s7 ?_
 by_cases h7 : n < 72057594037927936
 ·rw [if_neg (by rw [p7];omega),if_pos h7]
 rw [if_pos (by rw [p7];omega),if_neg h7];exact s8
theorem rnum_tells (k : Nat) (n : Int) (hk : 15 ≤ k) : althingref1_Num.f k n = some (numB n):=by
 have hb:=heldN_bound n
 have hh : mn (mx n 0) 4611686018427387904 = heldN n:=by rw [mx_eq,mn_eq];rfl
 unfold althingref1_Num.f numB
 rw [hh]
 by_cases h1 : heldN n < 64
 ·rw [if_pos h1,if_pos h1,wrap_in (by omega) (by omega)];have h:=rlow_tells k (heldN n * 4) 1 (by omega) (by omega);rw [show (((1 : Nat)) : Int) = 1 from rfl] at h;rw [h,Option.bind_some,Int.mul_comm]
 rw [if_neg h1,if_neg h1]
 by_cases h2 : heldN n < 16384
 ·rw [if_pos h2,if_pos h2,wrap_in (by omega) (by omega),or_small _ _ 1 (by omega) (by omega) (by omega) (by decide) (by decide) (by decide)];have h:=rlow_tells k (heldN n * 4 + 1) 2 (by omega) (by omega);rw [show (((2 : Nat)) : Int) = 2 from rfl] at h;rw [h,Option.bind_some,Int.mul_comm]
 rw [if_neg h2,if_neg h2]
 by_cases h3 : heldN n < 1073741824
 rotate_left
 ·rw [if_neg h3,if_neg h3];exact rnum_great k _ hk
 rw [if_pos h3,if_pos h3,wrap_in (by omega) (by omega),or_small _ _ 2 (by omega) (by omega) (by omega) (by decide) (by decide) (by decide)];have h:=rlow_tells k (heldN n * 4 + 2) 4 (by omega) (by omega);rw [show (((4 : Nat)) : Int) = 4 from rfl] at h;rw [h,Option.bind_some,Int.mul_comm]
/-! ### Take -/
theorem strOf_inj {a b : List Int} (ha : IsBytes a) (hb : IsBytes b) : (strOfNums a).toList = (strOfNums b).toList ↔ a = b:=by
 have hr : ∀ l : List Int,IsBytes l → (strOfNums l).toList.map (fun c=>(c.toNat : Int)) = l:=by
  intro l hl
  have e : (strOfNums l).toList = l.map fun n=>UInt8.ofNat n.toNat:=by
   unfold strOfNums
   simp
  rw [e,List.map_map]
  conv=>rhs;rw [← List.map_id l]
  apply List.map_congr_left
  intro c hc;have:=hl c hc;simp only [Function.comp,id,UInt8.toNat_ofNat']
  omega
 constructor
 ·intro h;rw [← hr a ha,← hr b hb,h]
 ·intro h;rw [h]
theorem u8_and3 (x : Int) (h₀ : 0 ≤ x) (h₁ : x < 256) : Go.bits .and .u8 x 3 = x % 4:=bits_mask .u8 8 (by decide) wraps_u8 2 (by decide) x h₀ h₁
theorem or_low (x b : Int) (h0 : 0 ≤ b) (h1 : b < 256) : Go.bits .or .i64 (wrap64 (x * 256)) b = wrap64 (x * 256 + b):=by
 obtain ⟨c,rfl⟩:=Int.eq_ofNat_of_zero_le h0
 have e1 : (BitVec.ofInt 64 (wrap64 (x * 256))).toNat = ((x * 256) % 18446744073709551616).toNat:=by
  rw [BitVec.toNat_ofInt]
  congr 1
  unfold wrap64;omega
 have e2 : (BitVec.ofInt 64 (c : Int)).toNat = c:=by
  rw [BitVec.toNat_ofInt]
  omega
 have hj : ((x * 256) % 18446744073709551616).toNat ||| c = ((x * 256) % 18446744073709551616).toNat + c:=by
  have h:=Nat.two_pow_add_eq_or_of_lt (i:=8) (b:=c) (by omega) (((x * 256) % 18446744073709551616).toNat / 256)
  have hd : 2 ^ 8 * (((x * 256) % 18446744073709551616).toNat / 256) = ((x * 256) % 18446744073709551616).toNat:=by omega
  rw [hd] at h;exact h.symm
 have e : Go.bits .or .i64 (wrap64 (x * 256)) (c : Int) = wrap64 (((((x * 256) % 18446744073709551616).toNat + c : Nat)) : Int):=by
  rw [← hj,← e1]
  conv=>rhs;rw [← e2]
  rw [← BitVec.toNat_or];exact i64_w _
 rw [e]
 unfold wrap64
 omega
theorem valB_split (c : Int) (r : List Int) : valB (c :: r) = c + 256 * valB r:=rfl
theorem rtake_step (k : Nat) (l : List Int) (at_ size d : Nat) (acc b : Int) (h1 : at_ + d < l.length) (h2 : at_ + d ≤ 1000) (hg : l[at_ + d] = b) (h0 : 0 ≤ b) (hb : b < 256) :
 althingref1_Take.l0 (k + 1) l at_ size acc (d : Int) = althingref1_Take.l0 k l at_ size (wrap64 (acc * 256 + b)) ((d : Int) - 1):=by
 have i1 : wrap64 ((at_ : Int) + (d : Int)) = ((at_ + d : Nat) : Int):=by rw [wrap_in (by omega) (by omega)];omega
 have i2 : wrap64 ((d : Int) - 1) = (d : Int) - 1:=by unfold wrap64;omega
 have c0 : (d : Int) ≥ 0:=by omega
 have c1 : (0 : Int) ≤ ((at_ + d : Nat) : Int):=by omega
 have c2 : ((at_ + d : Nat) : Int) < (l.length : Int):=by omega
 have e3 : wrap64 b = b:=wrap_in h0 (by omega);rw [althingref1_Take.l0,if_pos c0,i1,if_pos c1,if_pos c2,rd_nat l (at_ + d) h1,i2,hg,e3,or_low _ _ h0 hb]
theorem rtake_loop (l : List Int) (hl : IsBytes l) (at_ size : Nat) (ha : at_ ≤ 1) (hs : size ≤ 8) (hlen : at_ + size ≤ l.length) (d : Nat) : ∀ (k : Nat) (acc : Int),d ≤ size →
 acc = wrap64 (valB (((l.drop at_).take size).drop d)) →
 althingref1_Take.l0 (k + d) l at_ size acc ((d : Int) - 1) = althingref1_Take.l0 k l at_ size (wrap64 (valB ((l.drop at_).take size))) (-1):=by
 induction d with
 | zero=>intro k acc _ h;rw [h];rfl
 | succ d ih=>
   intro k acc hd h
   have hlt : d < ((l.drop at_).take size).length:=by rw [List.length_take,List.length_drop];omega
   have hb : IsBytes ((l.drop at_).take size):=(hl.drop at_).take size;have hx:=hb _ (List.getElem_mem hlt)
   have h1 : at_ + d < l.length:=by omega
   have hg : l[at_ + d] = ((l.drop at_).take size)[d]:=by rw [List.getElem_take,List.getElem_drop]
   have hc:=List.drop_eq_getElem_cons hlt
   have i0 : (((d + 1 : Nat)) : Int) - 1 = (d : Int):=by omega
   have e : wrap64 (acc * 256 + ((l.drop at_).take size)[d]) = wrap64 (valB (((l.drop at_).take size).drop d)):=by
    rw [h,hc,valB_split];generalize valB (((l.drop at_).take size).drop (d + 1)) = v;generalize ((l.drop at_).take size)[d] = b
    unfold wrap64
    omega
   have hs:=rtake_step (k + d) l at_ size d acc _ h1 (by omega) hg hx.1 hx.2;rw [i0,show k + (d + 1) = (k + d) + 1 from rfl,hs];exact ih k _ (by omega) e
theorem rtake_end (k : Nat) (l : List Int) (hl : IsBytes l) (at_ size : Nat) (ha : at_ ≤ 1) (hs : size ≤ 8) (hs1 : 1 ≤ size) (hlen : at_ + size ≤ l.length) (v : Int) (hk : 17 ≤ k) :
 althingref1_Take.l0 k l at_ size v (-1) = some (outT (if (if at_ = 0 then v / 4 else v) < 0 ∨ 4611686018427387904 < (if at_ = 0 then v / 4 else v) ∨ numB (if at_ = 0 then v / 4 else v) ≠ l.take (at_ + size) then none else some ((if at_ = 0 then v / 4 else v),at_ + size))):=by
 obtain ⟨k,rfl⟩ : ∃ q,k = q + 1:=⟨k - 1,by omega⟩
 have i1 : wrap64 ((at_ : Int) + (size : Int)) = ((at_ + size : Nat) : Int):=by rw [wrap_in (by omega) (by omega)];omega
 have hinj : ∀ n : Int,((strOfNums (numB n)).toList = (strOfNums (l.take (at_ + size))).toList) ↔ numB n = l.take (at_ + size):=fun n=>strOf_inj (numB_bytes n) (hl.take _)
 have htn : ((((at_ + size : Nat)) : Int)).toNat = at_ + size:=by omega
 rw [althingref1_Take.l0,if_neg (by omega),i1];simp only [rnum_tells k _ (show 15 ≤ k by omega),Option.bind_some,htn,hinj]
 have c1 : (0 : Int) ≤ ((at_ + size : Nat) : Int):=by omega
 have c2 : (((at_ + size : Nat)) : Int) ≤ (l.length : Int):=by omega
 have fin : ∀ n : Int,(if n < 0 then some (0,0,false) else if n > 4611686018427387904 then some (0,0,false) else if (0 : Int) ≤ ((at_ + size : Nat) : Int) then if (((at_ + size : Nat)) : Int) ≤ (l.length : Int) then if numB n = l.take (at_ + size) then some (n,(((at_ + size : Nat)) : Int),true) else some (0,0,false) else none else none) =
  some (outT (if n < 0 ∨ 4611686018427387904 < n ∨ numB n ≠ l.take (at_ + size) then none else some (n,at_ + size))):=by
  intro n;rw [if_pos c1,if_pos c2]
  by_cases h1 : n < 0
  ·rw [if_pos h1,if_pos (Or.inl h1)];rfl
  rw [if_neg h1]
  by_cases h2 : 4611686018427387904 < n
  ·rw [if_pos h2,if_pos (Or.inr (Or.inl h2))];rfl
  rw [if_neg h2]
  by_cases h3 : numB n = l.take (at_ + size)
  rotate_left
  ·rw [if_neg h3,if_pos (Or.inr (Or.inr h3))];rfl
  rw [if_pos h3,if_neg (by simp [h1,h2,h3])];rfl
 by_cases h0 : at_ = 0
 ·have z : (at_ : Int) = 0:=by omega
  rw [if_pos z,if_pos h0];exact fin _
 have z : ¬ (at_ : Int) = 0:=by omega
 rw [if_neg z,if_neg h0];exact fin _
theorem takeAt_num {c : Int} {r : List Int} (hl : IsBytes (c :: r)) :
 takeN (c :: r) = if 9 < headSize c ∨ (c :: r).length < headSize c then none
  else if valAt c (c :: r) < 0 ∨ 4611686018427387904 < valAt c (c :: r) ∨ numB (valAt c (c :: r)) ≠ (c :: r).take (headSize c) then none else some (valAt c (c :: r),headSize c):=by
 by_cases ha : 9 < headSize c ∨ (c :: r).length < headSize c
 ·rw [if_pos ha];show takeAt c (c :: r) = none;unfold takeAt;rw [if_pos ha]
 rw [if_neg ha]
 by_cases hb : valAt c (c :: r) < 0 ∨ 4611686018427387904 < valAt c (c :: r) ∨ numB (valAt c (c :: r)) ≠ (c :: r).take (headSize c)
 rotate_left
 ·rw [if_neg hb];have h3 : numB (valAt c (c :: r)) = (c :: r).take (headSize c):=Decidable.byContradiction fun h=>hb (Or.inr (Or.inr h))
  show takeAt c (c :: r) = _
  unfold takeAt
  have hs : sizeN (valAt c (c :: r)) = headSize c:=by
   rw [← numB_length,h3,List.length_take];omega
  rw [if_neg ha,if_neg (by rw [hs];omega)]
 rw [if_pos hb]
 cases e : takeN (c :: r) with
 | none=>rfl
 | some x=>
   obtain ⟨n,s⟩:=x;obtain ⟨q0,q1,q2,q3,q4⟩:=takeN_tells hl e
   change takeAt c (c :: r) = some (n,s) at e
   unfold takeAt at e
   rw [if_neg ha] at e
   split at e
   ·cases e
   ·injection e with e
    injection e with e1 e2
    rw [e1,e2] at hb
    rcases hb with h | h | h
    ·omega
    ·omega
    ·exact absurd q4.symm h
theorem rtake_tells (k : Nat) (l : List Int) (hl : IsBytes l) (hlen : l.length ≤ 4611686018427387904) (hk : 30 ≤ k) : althingref1_Take.f k l = some (outT (takeN l)):=by
 cases l with
 | nil=>rfl
 | cons c r=>
   have hc:=hl c (by simp);have hr0 : rd (c :: r) 0 = c:=rfl
   have key : ∀ (at_ size : Nat),at_ ≤ 1 → 1 ≤ size → size ≤ 100 → at_ + size = headSize c → (at_ = 0 → size ≤ 4) → (if at_ = 0 then wrap64 (valB (((c :: r).drop at_).take size)) / 4 else wrap64 (valB (((c :: r).drop at_).take size))) = valAt c (c :: r) →
    althingref1_Take.j0 k (c :: r) at_ size = some (outT (takeN (c :: r))):=by
    intro at_ size h1 h2 h3 h4 h5 h6;obtain ⟨k,rfl⟩ : ∃ q,k = q + 2:=⟨k - 2,by omega⟩
    have i1 : wrap64 ((at_ : Int) + (size : Int)) = ((at_ + size : Nat) : Int):=by rw [wrap_in (by omega) (by omega)];omega
    have i2 : wrap64 ((size : Int) - 1) = (size : Int) - 1:=wrap_in (by omega) (by omega);rw [althingref1_Take.j0,takeAt_num hl]
    by_cases ha : 8 < size
    ·rw [if_pos (by omega),althingref1_Take.j1,if_pos rfl,if_pos (Or.inl (by omega))];rfl
    rw [if_neg (by omega),i1,althingref1_Take.j1]
    by_cases hb : (c :: r).length < at_ + size
    ·rw [if_pos (by rw [decide_eq_true_eq];omega),if_pos (Or.inr (by omega))];rfl
    rw [if_neg (by rw [decide_eq_true_eq];omega),i2,if_neg (by omega)];obtain ⟨k,rfl⟩ : ∃ q,k = q + size:=⟨k - size,by omega⟩;rw [rtake_loop (c :: r) hl at_ size h1 (by omega) (by omega) size k 0 (Nat.le_refl _) (by rw [List.drop_eq_nil_of_le (by rw [List.length_take];omega)];decide +kernel)];rw [rtake_end k (c :: r) hl at_ size h1 (by omega) h2 (by omega) _ (by omega),h6,h4]
   have hsm : ∀ s : Nat,s ≤ 4 → wrap64 (valB ((c :: r).take s)) = valB ((c :: r).take s):=by
    intro s hs;have hb:=valB_bound _ (hl.take s)
    have hp : (256 : Int) ^ ((c :: r).take s).length ≤ 4294967296:=by
     have hx : ((c :: r).take s).length ≤ 4:=Nat.le_trans (List.length_take_le s _) hs;generalize ((c :: r).take s).length = q at hx
     have hq : q = 0 ∨ q = 1 ∨ q = 2 ∨ q = 3 ∨ q = 4:=by omega
     rcases hq with x | x | x | x | x <;> rw [x] <;> decide
    exact wrap_in hb.1 (by have:=hb.2;omega)
   have hlen0 : ¬ (((c :: r).length : Nat) : Int) = 0:=by simp;omega
   have hlen1 : (0 : Int) < (((c :: r).length : Nat) : Int):=by simp
   unfold althingref1_Take.f
   rw [if_neg hlen0,Option.bind_some,if_pos hlen1,hr0,u8_and3 c hc.1 hc.2,if_pos (by omega),if_pos (by simp;omega)]
   by_cases c0 : c % 4 = 0
   ·have hs : headSize c = 1:=by unfold headSize;rw [if_pos c0]
    rw [c0,show rd [1,2,4,0] 0 = 1 from rfl,if_neg (by decide)];exact key 0 1 (by omega) (by omega) (by omega) (by omega) (by omega) (by unfold valAt;rw [if_pos rfl,if_neg (by omega),hs,List.drop_zero,hsm 1 (by omega)])
   by_cases c1 : c % 4 = 1
   ·have hs : headSize c = 2:=by unfold headSize;rw [if_neg c0,if_pos c1]
    rw [c1,show rd [1,2,4,0] 1 = 2 from rfl,if_neg (by decide)];exact key 0 2 (by omega) (by omega) (by omega) (by omega) (by omega) (by unfold valAt;rw [if_pos rfl,if_neg (by omega),hs,List.drop_zero,hsm 2 (by omega)])
   by_cases c2 : c % 4 = 2
   ·have hs : headSize c = 4:=by unfold headSize;rw [if_neg c0,if_neg c1,if_pos c2]
    rw [c2,show rd [1,2,4,0] 2 = 4 from rfl,if_neg (by decide)];exact key 0 4 (by omega) (by omega) (by omega) (by omega) (by omega) (by unfold valAt;rw [if_pos rfl,if_neg (by omega),hs,List.drop_zero,hsm 4 (by omega)])
   have c3 : c % 4 = 3:=by omega
   have hs : headSize c = 5 + (c / 4).toNat:=by unfold headSize;rw [if_neg c0,if_neg c1,if_neg c2]
   have e1 : wrap64 (c / 4) = c / 4:=wrap_in (by omega) (by omega)
   have e2 : wrap64 (c / 4 + 4) = ((4 + (c / 4).toNat : Nat) : Int):=by rw [wrap_in (by omega) (by omega)];omega
   rw [c3,show rd [1,2,4,0] 3 = 0 from rfl,if_pos rfl,e1,e2];refine key 1 (4 + (c / 4).toNat) (by omega) (by omega) (by omega) (by omega) (by omega) ?_
   unfold valAt
   rw [if_neg (by decide),if_pos c3,hs,List.drop_take]
   congr 3
   omega
end Go.Proofs.YtilckocpgififaaDoor.PNum
/- compact.Take, plainly. -/
namespace Go.Proofs.YtilckocpgififaaDoor.PNum
open Go.RowKit Go.Proofs.YtilckocpgififaaDoor.G Go.Proofs.YtilckocpgififaaDoorW.PrintWords Go.Proofs.YtilckocpgififaaDoorW.PrintMore Go.Proofs.YtilckocpgififaaDoorW.PrintLast
set_option linter.unusedVariables false
set_option linter.unusedSimpArgs false
theorem ctake_fin (k : Nat) (hk : 5 ≤ k) (v : Int) (x : Nat) :
 (if v < 0 then some ((0 : Int),(0 : Int),false) else if v > 4611686018427387904 then some (0,0,false) else (compact_Size.f k v).bind fun t=>if t = (x : Int) then some (v,(x : Int),true) else some (0,0,false)) =
  some (outT (if v < 0 ∨ 4611686018427387904 < v ∨ sizeN v ≠ x then none else some (v,x))):=by
 by_cases h1 : v < 0
 ·rw [if_pos h1,if_pos (Or.inl h1)];rfl
 rw [if_neg h1]
 by_cases h2 : 4611686018427387904 < v
 ·rw [if_pos h2,if_pos (Or.inr (Or.inl h2))];rfl
 rw [if_neg h2,size_tells k v hk,Option.bind_some]
 by_cases h3 : sizeN v = x
 ·rw [if_pos (by rw [h3]),if_neg (by simp [h1,h2,h3])];rfl
 rw [if_neg (by intro h;exact h3 (by omega)),if_pos (Or.inr (Or.inr h3))];rfl
theorem small_val {l : List Int} (hl : IsBytes l) (s : Nat) (hs : s ≤ 4) : 0 ≤ valB (l.take s) ∧ valB (l.take s) < 4294967296:=by
 have hb:=valB_bound _ (hl.take s)
 have hp : (256 : Int) ^ (l.take s).length ≤ 4294967296:=by
  have hx : (l.take s).length ≤ 4:=Nat.le_trans (List.length_take_le s _) hs;generalize (l.take s).length = q at hx
  have hq : q = 0 ∨ q = 1 ∨ q = 2 ∨ q = 3 ∨ q = 4:=by omega
  rcases hq with x | x | x | x | x <;> rw [x] <;> decide
 exact ⟨hb.1,by have:=hb.2;omega⟩
theorem ctake_tells (k : Nat) (l : List Int) (hl : IsBytes l) (hk : 10 ≤ k) : compact_Take.f k l = some (outT (takeN l)):=by
 cases l with
 | nil=>rfl
 | cons c r=>
   have hc:=hl c (by simp);have hr0 : rd (c :: r) 0 = c:=rfl;have t4 : Int.tmod c 4 = c % 4:=Int.tmod_eq_emod_of_nonneg hc.1;have d4 : Int.tdiv c 4 = c / 4:=Int.tdiv_eq_ediv_of_nonneg hc.1
   have key : ∀ (s : Nat),1 ≤ s → s ≤ 100 → s = headSize c → (c % 4 ≠ 3 → s ≤ 4) → compact_Take.j0 k (c :: r) s = some (outT (takeN (c :: r))):=by
    intro s h1 h2 h4 h5;obtain ⟨k,rfl⟩ : ∃ q,k = q + 2:=⟨k - 2,by omega⟩
    have hlen1 : (0 : Int) < (((c :: r).length : Nat) : Int):=by simp
    have s0 : (0 : Int) ≤ (s : Int):=by omega
    have s1 : (1 : Int) ≤ (s : Int):=by omega
    have stn : ((s : Int)).toNat = s:=by omega
    show _ = some (outT (takeAt c (c :: r)))
    unfold takeAt
    rw [compact_Take.j0,← h4]
    by_cases ha : 9 < s
    ·rw [if_pos (by omega),compact_Take.j1,if_pos rfl,if_pos (Or.inl ha)];rfl
    rw [if_neg (by omega),compact_Take.j1]
    by_cases hb : (c :: r).length < s
    ·rw [if_pos (by rw [decide_eq_true_eq];omega),if_pos (Or.inr hb)];rfl
    have sl : (s : Int) ≤ (((c :: r).length : Nat) : Int):=by omega
    have hn : ¬ (9 < s ∨ (c :: r).length < s):=by omega
    have hd : ¬ (decide ((s : Int) > (((c :: r).length : Nat) : Int)) = true):=by rw [decide_eq_true_eq];omega
    rw [if_neg hd,if_neg hn,if_pos hlen1,hr0,t4]
    by_cases c3 : c % 4 = 3
    ·have hv : valAt c (c :: r) = wrap64 (valB (((c :: r).take s).drop 1)):=by unfold valAt;rw [if_pos c3,← h4]
     rw [if_pos c3,if_pos s1,if_pos sl,stn,number_tells,Option.bind_some,hv];exact ctake_fin k (by omega) _ s
    have hq:=small_val hl s (h5 c3);have hw : wrap64 (valB ((c :: r).take s)) = valB ((c :: r).take s):=wrap_in hq.1 (by omega);have hd4 : Int.tdiv (valB ((c :: r).take s)) 4 = valB ((c :: r).take s) / 4:=Int.tdiv_eq_ediv_of_nonneg hq.1;have hw4 : wrap64 (valB ((c :: r).take s) / 4) = valB ((c :: r).take s) / 4:=wrap_in (by omega) (by omega)
    have hv : valAt c (c :: r) = valB ((c :: r).take s) / 4:=by unfold valAt;rw [if_neg c3,← h4]
    rw [if_neg c3,if_pos s0,if_pos sl,stn,number_tells,Option.bind_some,hv,hw,hd4,hw4];exact ctake_fin k (by omega) _ s
   have hlen0 : ¬ (((c :: r).length : Nat) : Int) = 0:=by simp;omega
   have hlen1 : (0 : Int) < (((c :: r).length : Nat) : Int):=by simp
   unfold compact_Take.f
   rw [if_neg hlen0,if_pos hlen1,hr0,t4,d4]
   by_cases c0 : c % 4 = 0
   ·rw [if_pos c0];exact key 1 (by omega) (by omega) (by unfold headSize;rw [if_pos c0]) (by omega)
   rw [if_neg c0]
   by_cases c1 : c % 4 = 1
   ·rw [if_pos c1];exact key 2 (by omega) (by omega) (by unfold headSize;rw [if_neg c0,if_pos c1]) (by omega)
   rw [if_neg c1]
   by_cases c2 : c % 4 = 2
   ·rw [if_pos c2];exact key 4 (by omega) (by omega) (by unfold headSize;rw [if_neg c0,if_neg c1,if_pos c2]) (by omega)
   rw [if_neg c2]
   have e : (5 : Int) + c / 4 % 256 = ((5 + (c / 4).toNat : Nat) : Int):=by omega
   rw [e];exact key (5 + (c / 4).toNat) (by omega) (by omega) (by unfold headSize;rw [if_neg c0,if_neg c1,if_neg c2]) (by omega)
end Go.Proofs.YtilckocpgififaaDoor.PNum
/- The reference's Cut: what it hands back lies in the slice that came in. -/
namespace Go.Proofs.YtilckocpgififaaDoor.G
open Go.RowKit Go.Proofs.YtilckocpgififaaDoorW.PrintWords Go.Proofs.YtilckocpgififaaDoorW.PrintLast Go.Proofs.YtilckocpgififaaDoorW.PrintMore
attribute [local go_sem] max2_int min2_int max_two min_two max_three min_three max_four min_four
set_option linter.unusedVariables false
set_option linter.unusedSimpArgs false
def RD (B : Nat) (W : World) (v : Value) (xs : List Int) : Prop:=
 (∃ A c,v = .slice A xs.length c ∧ Kd.C (Kd.int .u8) W A xs.length xs ∧ xs.length ≤ c) ∧ (∀ k,v.ownBlock = some k → k < B) ∧ B ≤ W.heap.size
def althingref1_Cut.f (k : Nat) (l0 : List Int) : Option (List Int × Int × Bool):=(althingref1_Take.f k l0).bind fun bt=>
 if bt.2.2 = true then (if bt.1 > wrap64 ((l0.length : Int) - bt.2.1) then some ([],0,false) else (if 0 ≤ bt.2.1 then (if bt.2.1 ≤ wrap64 (bt.2.1 + bt.1) then (if wrap64 (bt.2.1 + bt.1) ≤ (l0.length : Int) then some ((l0.take (wrap64 (bt.2.1 + bt.1)).toNat).drop bt.2.1.toNat,wrap64 (bt.2.1 + bt.1),true) else none) else none) else none)) else some ([],0,false)
set_option maxHeartbeats 4000000 in
set_option maxRecDepth 100000 in
theorem althingref1_Cut.calls (k : Nat) (A0 : Option Addr) (c0 : Nat) (l0 : List Int) (r1 : List Int) (r2 : Int) (r3 : Bool) (B : Nat) (w : World) (hr0 : Kd.C (Kd.int .u8) w A0 l0.length l0) (hA : ∀ ad,A0 = some ad → 0 < l0.length → ad.block < B) (hBw : B ≤ w.heap.size) (hc0 : l0.length ≤ c0) (h : althingref1_Cut.f k l0 = some (r1,r2,r3)) :
 Calls Tryd.prog 62 #[.slice A0 l0.length c0] w fun e w'=>∃ v0_ : Value,e = .returned (.tuple #[v0_,.int .i64 r2,.bool r3]) ∧ RD B w' v0_ r1 ∧ Below w.heap.size w w':=by
 have HR0:=am hr0;have HA:=am hA;clear hr0 hA;have nilR : ∀ W : World,B ≤ W.heap.size → RD B W (.slice none 0 0) []:=fun W hW=>⟨⟨none,0,rfl,Kd.C_nil _ _,Nat.le_refl _⟩,fun k hk=>(by simp [Value.ownBlock] at hk),hW⟩
 have H : ((althingref1_Take.f k l0).bind fun bt=>
  if bt.2.2 = true then (if bt.1 > wrap64 ((l0.length : Int) - bt.2.1) then some ([],0,false) else (if 0 ≤ bt.2.1 then (if bt.2.1 ≤ wrap64 (bt.2.1 + bt.1) then (if wrap64 (bt.2.1 + bt.1) ≤ (l0.length : Int) then some ((l0.take (wrap64 (bt.2.1 + bt.1)).toNat).drop bt.2.1.toNat,wrap64 (bt.2.1 + bt.1),true) else none) else none) else none)) else some ([],0,false)) = some (r1,r2,r3):=h
 clear h;obtain ⟨⟨t1,t2,t3⟩,A2,H⟩:=Option.bind_eq_some_iff.mp H;have A2:=am A2
 dsimp only at H
 cases t3 with
 | false=>
   rw [if_neg (by decide)] at H;simp only [Option.some.injEq,Prod.mk.injEq] at H;obtain ⟨rfl,rfl,rfl⟩:=H;go_enter Tryd.func62,Tryd.ntmps62
   go_wp2_with (go_at_call 61;((with_reducible refine (althingref1_Take.calls k _ _ l0 t1 t2 false _ HR0.out hc0 A2.out).mono ?_));rintro e w1 ⟨rfl,hb⟩;have HB:=am hb;clear hb)
   go_ret3
   exact ⟨_,rfl,nilR _ (Nat.le_trans hBw HB.out.size),HB.out⟩
 | true=>
   rw [if_pos rfl] at H
   by_cases c4 : t1 > wrap64 ((l0.length : Int) - t2)
   ·rw [if_pos c4] at H;have c4b0 : decide (wrap64 ((l0.length : Int) - t2) < t1) = true:=decide_eq_true c4;clear c4;simp only [Option.some.injEq,Prod.mk.injEq] at H;obtain ⟨rfl,rfl,rfl⟩:=H;go_enter Tryd.func62,Tryd.ntmps62
    go_wp2_with (go_at_call 61;((with_reducible refine (althingref1_Take.calls k _ _ l0 t1 t2 true _ HR0.out hc0 A2.out).mono ?_));rintro e w1 ⟨rfl,hb⟩;have HB:=am hb;clear hb)
    go_ret3
    exact ⟨_,rfl,nilR _ (Nat.le_trans hBw HB.out.size),HB.out⟩
   rw [if_neg c4] at H;have c4b0 : decide (wrap64 ((l0.length : Int) - t2) < t1) = false:=decide_eq_false c4;clear c4;obtain ⟨q,hq⟩ : ∃ q,wrap64 (t2 + t1) = q:=⟨_,rfl⟩;rw [hq] at H
   by_cases c6 : 0 ≤ t2
   rotate_left
   ·rw [if_neg c6] at H;cases H
   rw [if_pos c6] at H
   by_cases c7 : t2 ≤ q
   rotate_left
   ·rw [if_neg c7] at H;cases H
   rw [if_pos c7] at H
   by_cases c8 : q ≤ (l0.length : Int)
   rotate_left
   ·rw [if_neg c8] at H;cases H
   rw [if_pos c8] at H;simp only [Option.some.injEq,Prod.mk.injEq] at H;obtain ⟨rfl,rfl,rfl⟩:=H;obtain ⟨i0,hi0,_,hsz,_⟩:=info_parts info5;have hcut:=cut_mid (P:=Tryd.prog) 26 5 .i64 .i64 Tryd.underlying26 hi0 1 hsz A0 l0.length c0 t2 q c6 c7 c8 hc0;obtain ⟨A',hA'⟩ : ∃ A',(if c0 = t2.toNat then A0 else A0.map (·.add (t2.toNat * 1))) = A':=⟨_,rfl⟩;rw [hA'] at hcut;have hA':=Lib.hid hA';have hmid:=am (fun (W : World) (hC : Kd.C (Kd.int .u8) W A0 l0.length l0)=>Kd.C_mid (lo:=t2.toNat) (hi:=q.toNat) (c:=c0) hC (by omega) (by omega) hc0)
   have hlen : ((l0.take q.toNat).drop t2.toNat).length = q.toNat - t2.toNat:=by rw [List.length_drop,List.length_take];omega
   have hcap : ((l0.take q.toNat).drop t2.toNat).length ≤ c0 - t2.toNat:=by rw [hlen];omega
   have hlen:=Lib.hid hlen;have hcap:=Lib.hid hcap
   have hpos : 0 < (q.toNat - t2.toNat) → 0 < l0.length:=by omega
   have hpos:=Lib.hid hpos;go_enter Tryd.func62,Tryd.ntmps62
   go_wp2_with (go_at_call 61;((with_reducible refine (althingref1_Take.calls k _ _ l0 t1 t2 true _ HR0.out hc0 A2.out).mono ?_));rintro e w1 ⟨rfl,hb⟩;have HB:=am hb;clear hb)
   go_ret3
   have hM:=hmid.out _ (Kd.C_below HR0.out HB.out);rw [show (Kd.int .u8).sz = 1 from rfl,hA'.out] at hM;refine ⟨.slice A' (q.toNat - t2.toNat) (c0 - t2.toNat),by rw [← hq];rfl,⟨⟨A',c0 - t2.toNat,?_,hM,?_⟩,?_,?_⟩,HB.out⟩
   ·rw [hlen.out]
   ·exact hcap.out
   ·intro k hk
    have hp : 0 < l0.length:=by
     rcases Nat.eq_zero_or_pos l0.length with h0 | h0
     ·obtain rfl:=List.length_eq_zero_iff.1 h0;have:=A2.out
      simp [althingref1_Take.f] at this
     ·exact h0
    have hA':=hA'.out
    cases A0 with
    | none=>simp at hA';subst hA';simp [Value.ownBlock] at hk
    | some ad=>
      have:=HA.out ad rfl hp
      by_cases hc : c0 = t2.toNat
      ·simp [hc] at hA';subst hA';simp [Value.ownBlock] at hk;omega
      simp [hc] at hA';subst hA';simp [Value.ownBlock,addr_block] at hk;omega
   ·exact Nat.le_trans hBw HB.out.size
end Go.Proofs.YtilckocpgififaaDoor.G
/- Rows, plainly (without what chapter 1 asks of them). -/
namespace Go.Proofs.YtilckocpgififaaDoor.PNum
open Go.RowKit Go.Proofs.YtilckocpgififaaDoor.G Go.Proofs.YtilckocpgififaaDoorW.PrintWords Go.Proofs.YtilckocpgififaaDoorW.PrintMore Go.Proofs.YtilckocpgififaaDoorW.PrintLast
set_option linter.unusedVariables false
set_option linter.unusedSimpArgs false
def rowsSize (l : List (List Int)) : Nat:=(l.map fun p=>1 + p.length).sum
theorem rowsSize_cons (p : List Int) (l : List (List Int)) : rowsSize (p :: l) = 1 + p.length + rowsSize l:=by simp [rowsSize]
theorem rd_L (l : List (List Int)) (i : Nat) (h : i < l.length) : rd_L4 l (i : Int) = l[i]:=by
 unfold rd_L4
 simp [List.getD_eq_getElem?_getD,h]
theorem length_le_rowsSize (l : List (List Int)) : l.length ≤ rowsSize l:=by
 induction l with
 | nil=>simp
 | cons p l ih=>rw [rowsSize_cons,List.length_cons];omega
theorem refNums_loop (ns : List Int) (d : Nat) : ∀ (k i : Nat) (b : List Int),i + d = ns.length → ns.length ≤ 1000000 → d + 16 ≤ k → b.length + 9 * d + 9 < 140737488355328 →
 althingref1_Nums.l0 k ns b i = some (b ++ numsB (ns.drop i)):=by
 induction d with
 | zero=>
   intro k i b hi hn hk hl;obtain ⟨k,rfl⟩ : ∃ q,k = q + 1:=⟨k - 1,by omega⟩;rw [althingref1_Nums.l0,if_neg (by omega),List.drop_eq_nil_of_le (by omega)]
   simp [numsB]
 | succ d ih=>
   intro k i b hi hn hk hl;obtain ⟨k,rfl⟩ : ∃ q,k = q + 1:=⟨k - 1,by omega⟩
   have hlt : i < ns.length:=by omega
   have e1 : wrap64 ((i : Int) + 1) = ((i + 1 : Nat) : Int):=by rw [wrap_in (by omega) (by omega)];omega
   have hs:=sizeN_range ns[i];have hz:=numB_length ns[i]
   have c1 : (i : Int) < (ns.length : Int):=by omega
   have c2 : (0 : Int) ≤ (i : Int):=by omega
   have c3 : b.length + (numB ns[i]).length < 140737488355328:=by omega
   have hi' : i + 1 + d = ns.length:=by omega
   have hk' : d + 16 ≤ k:=by omega
   have hl' : (b ++ numB ns[i]).length + 9 * d + 9 < 140737488355328:=by rw [List.length_append];omega
   rw [althingref1_Nums.l0,if_pos c1,if_pos c2,rd_nat ns i hlt,rnum_tells k _ (by omega),Option.bind_some,if_pos c3,e1];rw [ih k (i + 1) _ hi' hn hk' hl',List.drop_eq_getElem_cons hlt,numsB_cons]
   simp
theorem refNums_tells (k : Nat) (ns : List Int) (hn : ns.length ≤ 1000000) (hk : ns.length + 16 ≤ k) : althingref1_Nums.f k ns = some (numsB ns):=by
 exact refNums_loop ns ns.length k 0 [] (by omega) hn hk (by simp;omega)
def rowB (p : List Int) : List Int:=numB (p.length : Int) ++ p
def rowsB (l : List (List Int)) : List Int:=l.flatMap rowB
theorem rowsB_cons (p : List Int) (l : List (List Int)) : rowsB (p :: l) = rowB p ++ rowsB l:=rfl
theorem rowB_length (p : List Int) : (rowB p).length = sizeN p.length + p.length:=by unfold rowB;rw [List.length_append,numB_length]
theorem rowB_bytes {p : List Int} (h : IsBytes p) : IsBytes (rowB p):=(numB_bytes _).append h
theorem rowsB_bytes {l : List (List Int)} (h : ∀ p ∈ l,IsBytes p) : IsBytes (rowsB l):=by
 intro c hc;obtain ⟨p,hp,hcp⟩:=List.mem_flatMap.1 hc;exact rowB_bytes (h p hp) c hcp
theorem refRow_tells (k : Nat) (p : List Int) (hp : p.length < 140737488355300) (hk : 15 ≤ k) : althingref1_Row.f k p = some (rowB p):=by
 have hs:=sizeN_range (p.length : Int);have hz:=numB_length (p.length : Int)
 have c : (numB (p.length : Int)).length + p.length < 140737488355328:=by omega
 unfold althingref1_Row.f
 rw [rnum_tells k _ hk,Option.bind_some,if_pos c]
 rfl
theorem row_loop (ps : List (List Int)) (hps : rowsSize ps ≤ 1000000000) (d : Nat) : ∀ (k i : Nat) (b : List Int),i + d = ps.length → d + 11 ≤ k → b.length + 9 * rowsSize (ps.drop i) + 9 < 140737488355328 →
 compact_Row.l0 k b ps (ps.length : Int) i = some (b ++ rowsB (ps.drop i)):=by
 induction d with
 | zero=>
   intro k i b hi hk hl;obtain ⟨k,rfl⟩ : ∃ q,k = q + 1:=⟨k - 1,by omega⟩;rw [compact_Row.l0,if_neg (by omega),List.drop_eq_nil_of_le (by omega)]
   simp [rowsB]
 | succ d ih=>
   intro k i b hi hk hl;obtain ⟨k,rfl⟩ : ∃ q,k = q + 1:=⟨k - 1,by omega⟩
   have hlt : i < ps.length:=by omega
   have hll:=length_le_rowsSize ps
   have e1 : wrap64 ((i : Int) + 1) = ((i + 1 : Nat) : Int):=by rw [wrap_in (by omega) (by omega)];omega
   have hs:=sizeN_range (ps[i].length : Int);have hz:=numB_length (ps[i].length : Int);have hd:=List.drop_eq_getElem_cons hlt;rw [hd,rowsSize_cons] at hl
   have c1 : (i : Int) < (ps.length : Int):=by omega
   have c2 : (0 : Int) ≤ (i : Int):=by omega
   have c3 : (b ++ numB (ps[i].length : Int)).length + ps[i].length < 140737488355328:=by rw [List.length_append];omega
   have hi' : i + 1 + d = ps.length:=by omega
   have hk' : d + 11 ≤ k:=by omega
   have hl' : (b ++ numB (ps[i].length : Int) ++ ps[i]).length + 9 * rowsSize (ps.drop (i + 1)) + 9 < 140737488355328:=by rw [List.length_append,List.length_append];omega
   rw [compact_Row.l0,if_pos c1,if_pos c2,if_pos c1,rd_L ps i hlt,lays_tells k b _ (by omega) (by omega),Option.bind_some,if_pos c3,e1];rw [ih k (i + 1) _ hi' hk' hl',hd,rowsB_cons,rowB]
   simp
theorem row_tells (k : Nat) (b : List Int) (ps : List (List Int)) (hps : rowsSize ps ≤ 1000000000) (hk : ps.length + 11 ≤ k) (hb : b.length + 9 * rowsSize ps + 9 < 140737488355328) : compact_Row.f k b ps = some (b ++ rowsB ps):=by
 unfold compact_Row.f
 have hc : slices_Clone_byte_byte.f b = some b:=by
  unfold slices_Clone_byte_byte.f
  rw [Option.bind_some,if_pos (by simp;omega)];rfl
 rw [hc,Option.bind_some];exact row_loop ps hps ps.length k 0 b (by omega) hk (by simpa using hb)
/-! ### Cut -/
def cutN (b : List Int) : Option (List Int × Nat):=
 match takeN b with
 | none=>none
 | some (n,s)=>if (b.length : Int) - s < n then none else some ((b.take (s + n.toNat)).drop s,s + n.toNat)
def outC : Option (List Int × Nat) → List Int × Int × Bool
 | none=>([],0,false)
 | some (p,s)=>(p,(s : Int),true)
theorem clone_tells (l : List Int) (h : l.length < 140737488355328) : slices_Clone_byte_byte.f l = some l:=by
 unfold slices_Clone_byte_byte.f
 rw [Option.bind_some,if_pos (by simpa using h)];rfl
theorem cut_tells (k : Nat) (b : List Int) (hb : IsBytes b) (hl : b.length < 140737488355328) (hk : 10 ≤ k) : compact_Cut.f k b = some (outC (cutN b)):=by
 unfold compact_Cut.f cutN
 rw [ctake_tells k b hb hk,Option.bind_some]
 cases e : takeN b with
 | none=>rfl
 | some x=>
   obtain ⟨n,s⟩:=x;obtain ⟨q0,q1,q2,q3,q4⟩:=takeN_tells hb e;have hs:=sizeN_range n;rw [show outT (some (n,s)) = (n,(s : Int),true) from rfl]
   dsimp only
   have w1 : wrap64 ((b.length : Int) - (s : Int)) = (b.length : Int) - s:=wrap_in (by omega) (by omega);have w2 : wrap64 ((s : Int) + n) = (s : Int) + n:=wrap_in (by omega) (by omega);rw [if_pos rfl,w1,w2]
   by_cases h : n > (b.length : Int) - s
   ·rw [if_pos h,if_pos (by omega)];rfl
   have c1 : (0 : Int) ≤ (s : Int):=by omega
   have c2 : (s : Int) ≤ (s : Int) + n:=by omega
   have c3 : (s : Int) + n ≤ (b.length : Int):=by omega
   have t1 : ((s : Int) + n).toNat = s + n.toNat:=by omega
   have t2 : ((s : Int)).toNat = s:=by omega
   have hc : ((b.take (s + n.toNat)).drop s).length < 140737488355328:=by rw [List.length_drop,List.length_take];omega
   have hneg : ¬ ((b.length : Int) - s < n):=by omega
   rw [if_neg h,if_pos c1,if_pos c2,if_pos c3,t1,t2,clone_tells _ hc,Option.bind_some,if_neg hneg]
   show some (_,_,true) = some (_,_,true)
   congr 3
   omega
theorem rcut_tells (k : Nat) (b : List Int) (hb : IsBytes b) (hl : b.length < 140737488355328) (hk : 30 ≤ k) : althingref1_Cut.f k b = some (outC (cutN b)):=by
 unfold althingref1_Cut.f cutN
 rw [rtake_tells k b hb (by omega) hk,Option.bind_some]
 cases e : takeN b with
 | none=>rfl
 | some x=>
   obtain ⟨n,s⟩:=x;obtain ⟨q0,q1,q2,q3,q4⟩:=takeN_tells hb e;have hs:=sizeN_range n;rw [show outT (some (n,s)) = (n,(s : Int),true) from rfl]
   dsimp only
   have w1 : wrap64 ((b.length : Int) - (s : Int)) = (b.length : Int) - s:=wrap_in (by omega) (by omega);have w2 : wrap64 ((s : Int) + n) = (s : Int) + n:=wrap_in (by omega) (by omega);rw [if_pos rfl,w1,w2]
   by_cases h : n > (b.length : Int) - s
   ·rw [if_pos h,if_pos (by omega)];rfl
   have c1 : (0 : Int) ≤ (s : Int):=by omega
   have c2 : (s : Int) ≤ (s : Int) + n:=by omega
   have c3 : (s : Int) + n ≤ (b.length : Int):=by omega
   have t1 : ((s : Int) + n).toNat = s + n.toNat:=by omega
   have t2 : ((s : Int)).toNat = s:=by omega
   have hneg : ¬ ((b.length : Int) - s < n):=by omega
   rw [if_neg h,if_pos c1,if_pos c2,if_pos c3,t1,t2,if_neg hneg]
   show some (_,_,true) = some (_,_,true)
   congr 3
   omega
end Go.Proofs.YtilckocpgififaaDoor.PNum
