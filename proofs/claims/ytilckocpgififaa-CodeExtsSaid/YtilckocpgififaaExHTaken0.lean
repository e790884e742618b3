/- The document's numbers as bytes (althingref1), plainly: the same as compact's. -/
import Derived.Test.YtilckocpgififaaExPTake
import Derived.Test.YtilckocpgififaaExGx10
import Derived.IntWalk
import Derived.Test.YtilckocpgififaaExHNumber
import Derived.Test.YtilckocpgififaaExGx7
import Derived.Test.YtilckocpgififaaExGx9
import Derived.Test.YtilckocpgififaaExGx3
import Derived.Test.YtilckocpgififaaExHSameCall
import Derived.Test.YtilckocpgififaaExGx6
import Derived.Test.YtilckocpgififaaExHStep
namespace Go.Proofs.Ytilckocpgififaa.PNum
open Go.RowKit Go.Proofs.Ytilckocpgififaa.G Go.Proofs.YtilckocpgififaaW.PrintWords Go.Proofs.YtilckocpgififaaW.PrintMore Go.Proofs.YtilckocpgififaaW.PrintLast
set_option linter.unusedVariables false
set_option linter.unusedSimpArgs false
theorem i64_low (n : Int) (h0 : 0 ≤ n) (h1 : n < 2 ^ 63) : IntKind.i64.wrap n = n:=by
 have : n < 9223372036854775808:=by have e : (2 : Int) ^ 63 = 9223372036854775808:=by decide
                                    rw [e] at h1;exact h1
 rw [i64_w];exact wrap_in h0 (by omega)
theorem or_small (x y : Int) (i : Nat) (hx : 0 ≤ x) (hm : x % 2 ^ i = 0) (hx1 : x < 9223372036854775808) (hy : 0 ≤ y) (hy1 : y < 2 ^ i) (hy2 : y < 9223372036854775808) : Go.bits .or .i64 x y = x + y:=
 bits_join .i64 63 (by decide) i64_low i x y hx hm (by rw [show (2 : Int) ^ 63 = 9223372036854775808 from by decide];exact hx1) hy hy1 (by rw [show (2 : Int) ^ 63 = 9223372036854775808 from by decide];exact hy2)
theorem u64_at (i : Nat) (h : i ≤ 100) : IntKind.u64.wrap (wrap64 (8 * (i : Int))) = ((8 * i : Nat) : Int):=by
 rw [wrap_in (by omega) (by omega),IntKind.wrap_u64];omega
/-! ### low, Num -/
theorem lowB_snoc (n : Int) (s : Nat) : lowB n (s + 1) = lowB n s ++ [n / 2 ^ (8 * s) % 256]:=by
 induction s generalizing n with
 | zero=>simp [lowB]
 | succ s ih=>
   have h:=ih (n / 256);rw [lowB,h,lowB,List.cons_append]
   congr 3
   rw [Int.ediv_ediv_of_nonneg (by decide)]
   congr 2
   rw [show 8 * (s + 1) = 8 + 8 * s from by omega,Int.pow_add]
   rfl
theorem rlow_loop (n : Int) (s : Nat) (hs : s ≤ 8) (d : Nat) : ∀ (k i : Nat),i + d = s → d < k → althingref1_low.l0 k n s (lowB n i) i = some (lowB n s):=by
 induction d with
 | zero=>
   intro k i hi hk;obtain ⟨k,rfl⟩ : ∃ q,k = q + 1:=⟨k - 1,by omega⟩
   obtain rfl : i = s:=by omega
   rw [althingref1_low.l0,if_neg (by omega)]
 | succ d ih=>
   intro k i hi hk;obtain ⟨k,rfl⟩ : ∃ q,k = q + 1:=⟨k - 1,by omega⟩
   have e1 : wrap64 ((i : Int) + 1) = ((i + 1 : Nat) : Int):=by rw [wrap_in (by omega) (by omega)];omega
   have hl:=lowB_length n i;rw [althingref1_low.l0,if_pos (by omega),u64_at i (by omega),if_pos (by omega),if_pos (by omega),shr_at _ _ (by omega),e1,← lowB_snoc];exact ih k (i + 1) (by omega) (by omega)
theorem rlow_tells (k : Nat) (n : Int) (s : Nat) (hs : s ≤ 8) (hk : s < k) : althingref1_low.f k n s = some (lowB n s):=rlow_loop n s hs s k 0 (by omega) hk
theorem rnum_end (k : Nat) (n : Int) (x : Nat) (h4 : 4 ≤ x) (h8 : x ≤ 8) (hk : 9 < k) :
 ((some (([(Go.bits .or .i64 (wrap64 ((wrap64 ((x : Int) - 4)) * 4)) 3) % 256] : List Int) : List Int)).bind fun y184=>((althingref1_low.f k n (x : Int)).bind fun t187=>(if y184.length + t187.length < 140737488355328 then (some (y184 ++ t187)) else (none)))) =
   some ((4 * ((x : Int) - 4) + 3) :: lowB n x):=by
 have e1 : wrap64 ((x : Int) - 4) = (x : Int) - 4:=wrap_in (by omega) (by omega);have e2 : wrap64 (((x : Int) - 4) * 4) = ((x : Int) - 4) * 4:=wrap_in (by omega) (by omega);have e3 : Go.bits .or .i64 (((x : Int) - 4) * 4) 3 = ((x : Int) - 4) * 4 + 3:=or_small _ _ 2 (by omega) (by omega) (by omega) (by decide) (by decide) (by decide)
 have e4 : (((x : Int) - 4) * 4 + 3) % 256 = 4 * ((x : Int) - 4) + 3:=by omega
 have hl:=lowB_length n x;rw [e1,e2,e3,e4,Option.bind_some,rlow_tells k n x h8 (by omega),Option.bind_some,if_pos (by rw [hl];simp;omega)]
 rfl
theorem rnum_step (k : Nat) (n : Int) (x : Nat) (h4 : 4 ≤ x) (hx : x < 8) (hk : 9 < k) :
 althingref1_Num.l0 (k + 1) n x = if n / 2 ^ (8 * x) > 0 then althingref1_Num.l0 k n ((x + 1 : Nat) : Int) else some ((4 * ((x : Int) - 4) + 3) :: lowB n x):=by
 have e1 : wrap64 ((x : Int) + 1) = ((x + 1 : Nat) : Int):=by rw [wrap_in (by omega) (by omega)];omega
 rw [althingref1_Num.l0,if_pos (by omega),u64_at x (by omega),if_pos (by omega),shr_at _ _ (by omega),e1,rnum_end k n x h4 (by omega) hk]
theorem rnum_last (k : Nat) (n : Int) (hk : 9 < k) : althingref1_Num.l0 (k + 1) n ((8 : Nat) : Int) = some ((4 * (((8 : Nat) : Int) - 4) + 3) :: lowB n 8):=by
 rw [althingref1_Num.l0,if_neg (by omega)];exact rnum_end k n 8 (by omega) (by omega) hk
theorem rnum_great (k : Nat) (n : Int) (hk : 15 ≤ k) : althingref1_Num.l0 k n 4 = some ((4 * ((widthN n : Int) - 4) + 3) :: lowB n (widthN n)):=by
 obtain ⟨k,rfl⟩ : ∃ m,k = m + 5:=⟨k - 5,by omega⟩;have s4:=rnum_step (k + 4) n 4 (by omega) (by omega) (by omega);have s5:=rnum_step (k + 3) n 5 (by omega) (by omega) (by omega);have s6:=rnum_step (k + 2) n 6 (by omega) (by omega) (by omega);have s7:=rnum_step (k + 1) n 7 (by omega) (by omega) (by omega);have s8:=rnum_last k n (by omega);have p4:=pos_div n (2 ^ (8 * 4)) (by decide);have p5:=pos_div n (2 ^ (8 * 5)) (by decide);have p6:=pos_div n (2 ^ (8 * 6)) (by decide);have p7:=pos_div n (2 ^ (8 * 7)) (by decide);rw [show ((2 : Int) ^ (8 * 4)) = 4294967296 from by decide] at s4 p4;rw [show ((2 : Int) ^ (8 * 5)) = 1099511627776 from by decide] at s5 p5;rw [show ((2 : Int) ^ (8 * 6)) = 281474976710656 from by decide] at s6 p6;rw [show ((2 : Int) ^ (8 * 7)) = 72057594037927936 from by decide] at s7 p7
 unfold widthN
 refine Eq.trans s4 ?_
 by_cases h4 : n < 4294967296
 ·rw [if_neg (by rw [p4];omega),if_pos h4]
 rw [if_pos (by rw [p4];omega),if_neg h4];refine Eq.trans s5 ?_
 by_cases h5 : n < 1099511627776
 ·rw [if_neg (by rw [p5];omega),if_pos h5]
 rw [if_pos (by rw [p5];omega),if_neg h5];refine Eq.trans s6 ?_
 by_cases h6 : n < 281474976710656
 ·rw [if_neg (by rw [p6];omega),if_pos h6]
 rw [if_pos (by rw [p6];omega),if_neg h6];refine Eq.trans s7 ?_
 by_cases h7 : n < 72057594037927936
 ·rw [if_neg (by rw [p7];omega),if_pos h7]
 rw [if_pos (by rw [p7];omega),if_neg h7];exact s8
theorem rnum_tells (k : Nat) (n : Int) (hk : 15 ≤ k) : althingref1_Num.f k n = some (numB n):=by
 have hb:=heldN_bound n
 have hh : mn (mx n 0) 4611686018427387904 = heldN n:=by rw [mx_eq,mn_eq];rfl
 unfold althingref1_Num.f numB
 rw [hh]
 by_cases h1 : heldN n < 64
 ·rw [if_pos h1,if_pos h1,wrap_in (by omega) (by omega)];have h:=rlow_tells k (heldN n * 4) 1 (by omega) (by omega);rw [show (((1 : Nat)) : Int) = 1 from rfl] at h;rw [h,Option.bind_some,Int.mul_comm]
 rw [if_neg h1,if_neg h1]
 by_cases h2 : heldN n < 16384
 ·rw [if_pos h2,if_pos h2,wrap_in (by omega) (by omega),or_small _ _ 1 (by omega) (by omega) (by omega) (by decide) (by decide) (by decide)];have h:=rlow_tells k (heldN n * 4 + 1) 2 (by omega) (by omega);rw [show (((2 : Nat)) : Int) = 2 from rfl] at h;rw [h,Option.bind_some,Int.mul_comm]
 rw [if_neg h2,if_neg h2]
 by_cases h3 : heldN n < 1073741824
 rotate_left
 ·rw [if_neg h3,if_neg h3];exact rnum_great k _ hk
 rw [if_pos h3,if_pos h3,wrap_in (by omega) (by omega),or_small _ _ 2 (by omega) (by omega) (by omega) (by decide) (by decide) (by decide)];have h:=rlow_tells k (heldN n * 4 + 2) 4 (by omega) (by omega);rw [show (((4 : Nat)) : Int) = 4 from rfl] at h;rw [h,Option.bind_some,Int.mul_comm]
/-! ### Take -/
theorem strOf_inj {a b : List Int} (ha : IsBytes a) (hb : IsBytes b) : (strOfNums a).toList = (strOfNums b).toList ↔ a = b:=by
 have hr : ∀ l : List Int,IsBytes l → (strOfNums l).toList.map (fun c=>(c.toNat : Int)) = l:=by
  intro l hl
  have e : (strOfNums l).toList = l.map fun n=>UInt8.ofNat n.toNat:=by
   unfold strOfNums
   simp
  rw [e,List.map_map]
  conv=>rhs;rw [← List.map_id l]
  apply List.map_congr_left
  intro c hc;have:=hl c hc;simp only [Function.comp,id,UInt8.toNat_ofNat']
  omega
 constructor
 ·intro h;rw [← hr a ha,← hr b hb,h]
 ·intro h;rw [h]
theorem u8_and3 (x : Int) (h₀ : 0 ≤ x) (h₁ : x < 256) : Go.bits .and .u8 x 3 = x % 4:=bits_mask .u8 8 (by decide) wraps_u8 2 (by decide) x h₀ h₁
theorem or_low (x b : Int) (h0 : 0 ≤ b) (h1 : b < 256) : Go.bits .or .i64 (wrap64 (x * 256)) b = wrap64 (x * 256 + b):=by
 obtain ⟨c,rfl⟩:=Int.eq_ofNat_of_zero_le h0
 have e1 : (BitVec.ofInt 64 (wrap64 (x * 256))).toNat = ((x * 256) % 18446744073709551616).toNat:=by
  rw [BitVec.toNat_ofInt]
  congr 1
  unfold wrap64;omega
 have e2 : (BitVec.ofInt 64 (c : Int)).toNat = c:=by
  rw [BitVec.toNat_ofInt]
  omega
 have hj : ((x * 256) % 18446744073709551616).toNat ||| c = ((x * 256) % 18446744073709551616).toNat + c:=by
  have h:=Nat.two_pow_add_eq_or_of_lt (i:=8) (b:=c) (by omega) (((x * 256) % 18446744073709551616).toNat / 256)
  have hd : 2 ^ 8 * (((x * 256) % 18446744073709551616).toNat / 256) = ((x * 256) % 18446744073709551616).toNat:=by omega
  rw [hd] at h;exact h.symm
 have e : Go.bits .or .i64 (wrap64 (x * 256)) (c : Int) = wrap64 (((((x * 256) % 18446744073709551616).toNat + c : Nat)) : Int):=by
  rw [← hj,← e1]
  conv=>rhs;rw [← e2]
  rw [← BitVec.toNat_or];exact i64_w _
 rw [e]
 unfold wrap64
 omega
theorem valB_split (c : Int) (r : List Int) : valB (c :: r) = c + 256 * valB r:=rfl
theorem rtake_step (k : Nat) (l : List Int) (at_ size d : Nat) (acc b : Int) (h1 : at_ + d < l.length) (h2 : at_ + d ≤ 1000) (hg : l[at_ + d] = b) (h0 : 0 ≤ b) (hb : b < 256) :
 althingref1_Take.l0 (k + 1) l at_ size acc (d : Int) = althingref1_Take.l0 k l at_ size (wrap64 (acc * 256 + b)) ((d : Int) - 1):=by
 have i1 : wrap64 ((at_ : Int) + (d : Int)) = ((at_ + d : Nat) : Int):=by rw [wrap_in (by omega) (by omega)];omega
 have i2 : wrap64 ((d : Int) - 1) = (d : Int) - 1:=by unfold wrap64;omega
 have c0 : (d : Int) ≥ 0:=by omega
 have c1 : (0 : Int) ≤ ((at_ + d : Nat) : Int):=by omega
 have c2 : ((at_ + d : Nat) : Int) < (l.length : Int):=by omega
 have e3 : wrap64 b = b:=wrap_in h0 (by omega);rw [althingref1_Take.l0,if_pos c0,i1,if_pos c1,if_pos c2,rd_nat l (at_ + d) h1,i2,hg,e3,or_low _ _ h0 hb]
theorem rtake_loop (l : List Int) (hl : IsBytes l) (at_ size : Nat) (ha : at_ ≤ 1) (hs : size ≤ 8) (hlen : at_ + size ≤ l.length) (d : Nat) : ∀ (k : Nat) (acc : Int),d ≤ size →
 acc = wrap64 (valB (((l.drop at_).take size).drop d)) →
 althingref1_Take.l0 (k + d) l at_ size acc ((d : Int) - 1) = althingref1_Take.l0 k l at_ size (wrap64 (valB ((l.drop at_).take size))) (-1):=by
 induction d with
 | zero=>intro k acc _ h;rw [h];rfl
 | succ d ih=>
   intro k acc hd h
   have hlt : d < ((l.drop at_).take size).length:=by rw [List.length_take,List.length_drop];omega
   have hb : IsBytes ((l.drop at_).take size):=(hl.drop at_).take size;have hx:=hb _ (List.getElem_mem hlt)
   have h1 : at_ + d < l.length:=by omega
   have hg : l[at_ + d] = ((l.drop at_).take size)[d]:=by rw [List.getElem_take,List.getElem_drop]
   have hc:=List.drop_eq_getElem_cons hlt
   have i0 : (((d + 1 : Nat)) : Int) - 1 = (d : Int):=by omega
   have e : wrap64 (acc * 256 + ((l.drop at_).take size)[d]) = wrap64 (valB (((l.drop at_).take size).drop d)):=by
    rw [h,hc,valB_split];generalize valB (((l.drop at_).take size).drop (d + 1)) = v;generalize ((l.drop at_).take size)[d] = b
    unfold wrap64
    omega
   have hs:=rtake_step (k + d) l at_ size d acc _ h1 (by omega) hg hx.1 hx.2;rw [i0,show k + (d + 1) = (k + d) + 1 from rfl,hs];exact ih k _ (by omega) e
theorem rtake_end (k : Nat) (l : List Int) (hl : IsBytes l) (at_ size : Nat) (ha : at_ ≤ 1) (hs : size ≤ 8) (hs1 : 1 ≤ size) (hlen : at_ + size ≤ l.length) (v : Int) (hk : 17 ≤ k) :
 althingref1_Take.l0 k l at_ size v (-1) = some (outT (if (if at_ = 0 then v / 4 else v) < 0 ∨ 4611686018427387904 < (if at_ = 0 then v / 4 else v) ∨ numB (if at_ = 0 then v / 4 else v) ≠ l.take (at_ + size) then none else some ((if at_ = 0 then v / 4 else v),at_ + size))):=by
 obtain ⟨k,rfl⟩ : ∃ q,k = q + 1:=⟨k - 1,by omega⟩
 have i1 : wrap64 ((at_ : Int) + (size : Int)) = ((at_ + size : Nat) : Int):=by rw [wrap_in (by omega) (by omega)];omega
 have hinj : ∀ n : Int,((strOfNums (numB n)).toList = (strOfNums (l.take (at_ + size))).toList) ↔ numB n = l.take (at_ + size):=fun n=>strOf_inj (numB_bytes n) (hl.take _)
 have htn : ((((at_ + size : Nat)) : Int)).toNat = at_ + size:=by omega
 rw [althingref1_Take.l0,if_neg (by omega),i1];simp only [rnum_tells k _ (show 15 ≤ k by omega),Option.bind_some,htn,hinj]
 have c1 : (0 : Int) ≤ ((at_ + size : Nat) : Int):=by omega
 have c2 : (((at_ + size : Nat)) : Int) ≤ (l.length : Int):=by omega
 have fin : ∀ n : Int,(if n < 0 then some (0,0,false) else if n > 4611686018427387904 then some (0,0,false) else if (0 : Int) ≤ ((at_ + size : Nat) : Int) then if (((at_ + size : Nat)) : Int) ≤ (l.length : Int) then if numB n = l.take (at_ + size) then some (n,(((at_ + size : Nat)) : Int),true) else some (0,0,false) else none else none) =
  some (outT (if n < 0 ∨ 4611686018427387904 < n ∨ numB n ≠ l.take (at_ + size) then none else some (n,at_ + size))):=by
  intro n;rw [if_pos c1,if_pos c2]
  by_cases h1 : n < 0
  ·rw [if_pos h1,if_pos (Or.inl h1)];rfl
  rw [if_neg h1]
  by_cases h2 : 4611686018427387904 < n
  ·rw [if_pos h2,if_pos (Or.inr (Or.inl h2))];rfl
  rw [if_neg h2]
  by_cases h3 : numB n = l.take (at_ + size)
  rotate_left
  ·rw [if_neg h3,if_pos (Or.inr (Or.inr h3))];rfl
  rw [if_pos h3,if_neg (by simp [h1,h2,h3])];rfl
 by_cases h0 : at_ = 0
 ·have z : (at_ : Int) = 0:=by omega
  rw [if_pos z,if_pos h0];exact fin _
 have z : ¬ (at_ : Int) = 0:=by omega
 rw [if_neg z,if_neg h0];exact fin _
theorem takeAt_num {c : Int} {r : List Int} (hl : IsBytes (c :: r)) :
 takeN (c :: r) = if 9 < headSize c ∨ (c :: r).length < headSize c then none
  else if valAt c (c :: r) < 0 ∨ 4611686018427387904 < valAt c (c :: r) ∨ numB (valAt c (c :: r)) ≠ (c :: r).take (headSize c) then none else some (valAt c (c :: r),headSize c):=by
 by_cases ha : 9 < headSize c ∨ (c :: r).length < headSize c
 ·rw [if_pos ha];show takeAt c (c :: r) = none;unfold takeAt;rw [if_pos ha]
 rw [if_neg ha]
 by_cases hb : valAt c (c :: r) < 0 ∨ 4611686018427387904 < valAt c (c :: r) ∨ numB (valAt c (c :: r)) ≠ (c :: r).take (headSize c)
 rotate_left
 ·rw [if_neg hb];have h3 : numB (valAt c (c :: r)) = (c :: r).take (headSize c):=Decidable.byContradiction fun h=>hb (Or.inr (Or.inr h))
  show takeAt c (c :: r) = _
  unfold takeAt
  have hs : sizeN (valAt c (c :: r)) = headSize c:=by
   rw [← numB_length,h3,List.length_take];omega
  rw [if_neg ha,if_neg (by rw [hs];omega)]
 rw [if_pos hb]
 cases e : takeN (c :: r) with
 | none=>rfl
 | some x=>
   obtain ⟨n,s⟩:=x;obtain ⟨q0,q1,q2,q3,q4⟩:=takeN_tells hl e
   change takeAt c (c :: r) = some (n,s) at e
   unfold takeAt at e
   rw [if_neg ha] at e
   split at e
   ·cases e
   ·injection e with e
    injection e with e1 e2
    rw [e1,e2] at hb
    rcases hb with h | h | h
    ·omega
    ·omega
    ·exact absurd q4.symm h
theorem rtake_tells (k : Nat) (l : List Int) (hl : IsBytes l) (hlen : l.length ≤ 4611686018427387904) (hk : 30 ≤ k) : althingref1_Take.f k l = some (outT (takeN l)):=by
 cases l with
 | nil=>rfl
 | cons c r=>
   have hc:=hl c (by simp);have hr0 : rd (c :: r) 0 = c:=rfl
   have key : ∀ (at_ size : Nat),at_ ≤ 1 → 1 ≤ size → size ≤ 100 → at_ + size = headSize c → (at_ = 0 → size ≤ 4) → (if at_ = 0 then wrap64 (valB (((c :: r).drop at_).take size)) / 4 else wrap64 (valB (((c :: r).drop at_).take size))) = valAt c (c :: r) →
    althingref1_Take.j0 k (c :: r) at_ size = some (outT (takeN (c :: r))):=by
    intro at_ size h1 h2 h3 h4 h5 h6;obtain ⟨k,rfl⟩ : ∃ q,k = q + 2:=⟨k - 2,by omega⟩
    have i1 : wrap64 ((at_ : Int) + (size : Int)) = ((at_ + size : Nat) : Int):=by rw [wrap_in (by omega) (by omega)];omega
    have i2 : wrap64 ((size : Int) - 1) = (size : Int) - 1:=wrap_in (by omega) (by omega);rw [althingref1_Take.j0,takeAt_num hl]
    by_cases ha : 8 < size
    ·rw [if_pos (by omega),althingref1_Take.j1,if_pos rfl,if_pos (Or.inl (by omega))];rfl
    rw [if_neg (by omega),i1,althingref1_Take.j1]
    by_cases hb : (c :: r).length < at_ + size
    ·rw [if_pos (by rw [decide_eq_true_eq];omega),if_pos (Or.inr (by omega))];rfl
    rw [if_neg (by rw [decide_eq_true_eq];omega),i2,if_neg (by omega)];obtain ⟨k,rfl⟩ : ∃ q,k = q + size:=⟨k - size,by omega⟩;rw [rtake_loop (c :: r) hl at_ size h1 (by omega) (by omega) size k 0 (Nat.le_refl _) (by rw [List.drop_eq_nil_of_le (by rw [List.length_take];omega)];decide +kernel)];rw [rtake_end k (c :: r) hl at_ size h1 (by omega) h2 (by omega) _ (by omega),h6,h4]
   have hsm : ∀ s : Nat,s ≤ 4 → wrap64 (valB ((c :: r).take s)) = valB ((c :: r).take s):=by
    intro s hs;have hb:=valB_bound _ (hl.take s)
    have hp : (256 : Int) ^ ((c :: r).take s).length ≤ 4294967296:=by
     have hx : ((c :: r).take s).length ≤ 4:=Nat.le_trans (List.length_take_le s _) hs;generalize ((c :: r).take s).length = q at hx
     have hq : q = 0 ∨ q = 1 ∨ q = 2 ∨ q = 3 ∨ q = 4:=by omega
     rcases hq with x | x | x | x | x <;> rw [x] <;> decide
    exact wrap_in hb.1 (by have:=hb.2;omega)
   have hlen0 : ¬ (((c :: r).length : Nat) : Int) = 0:=by simp;omega
   have hlen1 : (0 : Int) < (((c :: r).length : Nat) : Int):=by simp
   unfold althingref1_Take.f
   rw [if_neg hlen0,Option.bind_some,if_pos hlen1,hr0,u8_and3 c hc.1 hc.2,if_pos (by omega),if_pos (by simp;omega)]
   by_cases c0 : c % 4 = 0
   ·have hs : headSize c = 1:=by unfold headSize;rw [if_pos c0]
    rw [c0,show rd [1,2,4,0] 0 = 1 from rfl,if_neg (by decide)];exact key 0 1 (by omega) (by omega) (by omega) (by omega) (by omega) (by unfold valAt;rw [if_pos rfl,if_neg (by omega),hs,List.drop_zero,hsm 1 (by omega)])
   by_cases c1 : c % 4 = 1
   ·have hs : headSize c = 2:=by unfold headSize;rw [if_neg c0,if_pos c1]
    rw [c1,show rd [1,2,4,0] 1 = 2 from rfl,if_neg (by decide)];exact key 0 2 (by omega) (by omega) (by omega) (by omega) (by omega) (by unfold valAt;rw [if_pos rfl,if_neg (by omega),hs,List.drop_zero,hsm 2 (by omega)])
   by_cases c2 : c % 4 = 2
   ·have hs : headSize c = 4:=by unfold headSize;rw [if_neg c0,if_neg c1,if_pos c2]
    rw [c2,show rd [1,2,4,0] 2 = 4 from rfl,if_neg (by decide)];exact key 0 4 (by omega) (by omega) (by omega) (by omega) (by omega) (by unfold valAt;rw [if_pos rfl,if_neg (by omega),hs,List.drop_zero,hsm 4 (by omega)])
   have c3 : c % 4 = 3:=by omega
   have hs : headSize c = 5 + (c / 4).toNat:=by unfold headSize;rw [if_neg c0,if_neg c1,if_neg c2]
   have e1 : wrap64 (c / 4) = c / 4:=wrap_in (by omega) (by omega)
   have e2 : wrap64 (c / 4 + 4) = ((4 + (c / 4).toNat : Nat) : Int):=by rw [wrap_in (by omega) (by omega)];omega
   rw [c3,show rd [1,2,4,0] 3 = 0 from rfl,if_pos rfl,e1,e2];refine key 1 (4 + (c / 4).toNat) (by omega) (by omega) (by omega) (by omega) (by omega) ?_
   unfold valAt
   rw [if_neg (by decide),if_pos c3,hs,List.drop_take]
   congr 3
   omega
end Go.Proofs.Ytilckocpgififaa.PNum
/- compact.Take, plainly. -/
namespace Go.Proofs.Ytilckocpgififaa.PNum
open Go.RowKit Go.Proofs.Ytilckocpgififaa.G Go.Proofs.YtilckocpgififaaW.PrintWords Go.Proofs.YtilckocpgififaaW.PrintMore Go.Proofs.YtilckocpgififaaW.PrintLast
set_option linter.unusedVariables false
set_option linter.unusedSimpArgs false
theorem ctake_fin (k : Nat) (hk : 5 ≤ k) (v : Int) (x : Nat) :
 (if v < 0 then some ((0 : Int),(0 : Int),false) else if v > 4611686018427387904 then some (0,0,false) else (compact_Size.f k v).bind fun t=>if t = (x : Int) then some (v,(x : Int),true) else some (0,0,false)) =
  some (outT (if v < 0 ∨ 4611686018427387904 < v ∨ sizeN v ≠ x then none else some (v,x))):=by
 by_cases h1 : v < 0
 ·rw [if_pos h1,if_pos (Or.inl h1)];rfl
 rw [if_neg h1]
 by_cases h2 : 4611686018427387904 < v
 ·rw [if_pos h2,if_pos (Or.inr (Or.inl h2))];rfl
 rw [if_neg h2,size_tells k v hk,Option.bind_some]
 by_cases h3 : sizeN v = x
 ·rw [if_pos (by rw [h3]),if_neg (by simp [h1,h2,h3])];rfl
 rw [if_neg (by intro h;exact h3 (by omega)),if_pos (Or.inr (Or.inr h3))];rfl
theorem small_val {l : List Int} (hl : IsBytes l) (s : Nat) (hs : s ≤ 4) : 0 ≤ valB (l.take s) ∧ valB (l.take s) < 4294967296:=by
 have hb:=valB_bound _ (hl.take s)
 have hp : (256 : Int) ^ (l.take s).length ≤ 4294967296:=by
  have hx : (l.take s).length ≤ 4:=Nat.le_trans (List.length_take_le s _) hs;generalize (l.take s).length = q at hx
  have hq : q = 0 ∨ q = 1 ∨ q = 2 ∨ q = 3 ∨ q = 4:=by omega
  rcases hq with x | x | x | x | x <;> rw [x] <;> decide
 exact ⟨hb.1,by have:=hb.2;omega⟩
theorem ctake_tells (k : Nat) (l : List Int) (hl : IsBytes l) (hk : 10 ≤ k) : compact_Take.f k l = some (outT (takeN l)):=by
 cases l with
 | nil=>rfl
 | cons c r=>
   have hc:=hl c (by simp);have hr0 : rd (c :: r) 0 = c:=rfl;have t4 : Int.tmod c 4 = c % 4:=Int.tmod_eq_emod_of_nonneg hc.1;have d4 : Int.tdiv c 4 = c / 4:=Int.tdiv_eq_ediv_of_nonneg hc.1
   have key : ∀ (s : Nat),1 ≤ s → s ≤ 100 → s = headSize c → (c % 4 ≠ 3 → s ≤ 4) → compact_Take.j0 k (c :: r) s = some (outT (takeN (c :: r))):=by
    intro s h1 h2 h4 h5;obtain ⟨k,rfl⟩ : ∃ q,k = q + 2:=⟨k - 2,by omega⟩
    have hlen1 : (0 : Int) < (((c :: r).length : Nat) : Int):=by simp
    have s0 : (0 : Int) ≤ (s : Int):=by omega
    have s1 : (1 : Int) ≤ (s : Int):=by omega
    have stn : ((s : Int)).toNat = s:=by omega
    show _ = some (outT (takeAt c (c :: r)))
    unfold takeAt
    rw [compact_Take.j0,← h4]
    by_cases ha : 9 < s
    ·rw [if_pos (by omega),compact_Take.j1,if_pos rfl,if_pos (Or.inl ha)];rfl
    rw [if_neg (by omega),compact_Take.j1]
    by_cases hb : (c :: r).length < s
    ·rw [if_pos (by rw [decide_eq_true_eq];omega),if_pos (Or.inr hb)];rfl
    have sl : (s : Int) ≤ (((c :: r).length : Nat) : Int):=by omega
    have hn : ¬ (9 < s ∨ (c :: r).length < s):=by omega
    have hd : ¬ (decide ((s : Int) > (((c :: r).length : Nat) : Int)) = true):=by rw [decide_eq_true_eq];omega
    rw [if_neg hd,if_neg hn,if_pos hlen1,hr0,t4]
    by_cases c3 : c % 4 = 3
    ·have hv : valAt c (c :: r) = wrap64 (valB (((c :: r).take s).drop 1)):=by unfold valAt;rw [if_pos c3,← h4]
     rw [if_pos c3,if_pos s1,if_pos sl,stn,number_tells,Option.bind_some,hv];exact ctake_fin k (by omega) _ s
    have hq:=small_val hl s (h5 c3);have hw : wrap64 (valB ((c :: r).take s)) = valB ((c :: r).take s):=wrap_in hq.1 (by omega);have hd4 : Int.tdiv (valB ((c :: r).take s)) 4 = valB ((c :: r).take s) / 4:=Int.tdiv_eq_ediv_of_nonneg hq.1;have hw4 : wrap64 (valB ((c :: r).take s) / 4) = valB ((c :: r).take s) / 4:=wrap_in (by omega) (by omega)
    have hv : valAt c (c :: r) = valB ((c :: r).take s) / 4:=by unfold valAt;rw [if_neg c3,← h4]
    rw [if_neg c3,if_pos s0,if_pos sl,stn,number_tells,Option.bind_some,hv,hw,hd4,hw4];exact ctake_fin k (by omega) _ s
   have hlen0 : ¬ (((c :: r).length : Nat) : Int) = 0:=by simp;omega
   have hlen1 : (0 : Int) < (((c :: r).length : Nat) : Int):=by simp
   unfold compact_Take.f
   rw [if_neg hlen0,if_pos hlen1,hr0,t4,d4]
   by_cases c0 : c % 4 = 0
   ·rw [if_pos c0];exact key 1 (by omega) (by omega) (by unfold headSize;rw [if_pos c0]) (by omega)
   rw [if_neg c0]
   by_cases c1 : c % 4 = 1
   ·rw [if_pos c1];exact key 2 (by omega) (by omega) (by unfold headSize;rw [if_neg c0,if_pos c1]) (by omega)
   rw [if_neg c1]
   by_cases c2 : c % 4 = 2
   ·rw [if_pos c2];exact key 4 (by omega) (by omega) (by unfold headSize;rw [if_neg c0,if_neg c1,if_pos c2]) (by omega)
   rw [if_neg c2]
   have e : (5 : Int) + c / 4 % 256 = ((5 + (c / 4).toNat : Nat) : Int):=by omega
   rw [e];exact key (5 + (c / 4).toNat) (by omega) (by omega) (by unfold headSize;rw [if_neg c0,if_neg c1,if_neg c2]) (by omega)
end Go.Proofs.Ytilckocpgififaa.PNum
/- The reference's Cut: what it hands back lies in the slice that came in. -/
namespace Go.Proofs.Ytilckocpgififaa.G
open Go.RowKit Go.Proofs.YtilckocpgififaaW.PrintWords Go.Proofs.YtilckocpgififaaW.PrintLast Go.Proofs.YtilckocpgififaaW.PrintMore
attribute [local go_sem] max2_int min2_int max_two min_two max_three min_three max_four min_four
set_option linter.unusedVariables false
set_option linter.unusedSimpArgs false
def RD (B : Nat) (W : World) (v : Value) (xs : List Int) : Prop:=
 (∃ A c,v = .slice A xs.length c ∧ Kd.C (Kd.int .u8) W A xs.length xs ∧ xs.length ≤ c) ∧ (∀ k,v.ownBlock = some k → k < B) ∧ B ≤ W.heap.size
def althingref1_Cut.f (k : Nat) (l0 : List Int) : Option (List Int × Int × Bool):=(althingref1_Take.f k l0).bind fun bt=>
 if bt.2.2 = true then (if bt.1 > wrap64 ((l0.length : Int) - bt.2.1) then some ([],0,false) else (if 0 ≤ bt.2.1 then (if bt.2.1 ≤ wrap64 (bt.2.1 + bt.1) then (if wrap64 (bt.2.1 + bt.1) ≤ (l0.length : Int) then some ((l0.take (wrap64 (bt.2.1 + bt.1)).toNat).drop bt.2.1.toNat,wrap64 (bt.2.1 + bt.1),true) else none) else none) else none)) else some ([],0,false)
set_option maxHeartbeats 4000000 in
set_option maxRecDepth 100000 in
theorem althingref1_Cut.calls (k : Nat) (A0 : Option Addr) (c0 : Nat) (l0 : List Int) (r1 : List Int) (r2 : Int) (r3 : Bool) (B : Nat) (w : World) (hr0 : Kd.C (Kd.int .u8) w A0 l0.length l0) (hA : ∀ ad,A0 = some ad → 0 < l0.length → ad.block < B) (hBw : B ≤ w.heap.size) (hc0 : l0.length ≤ c0) (h : althingref1_Cut.f k l0 = some (r1,r2,r3)) :
 Calls Try.prog 64 #[.slice A0 l0.length c0] w fun e w'=>∃ v0_ : Value,e = .returned (.tuple #[v0_,.int .i64 r2,.bool r3]) ∧ RD B w' v0_ r1 ∧ Below w.heap.size w w':=by
 have HR0:=am hr0;have HA:=am hA;clear hr0 hA;have nilR : ∀ W : World,B ≤ W.heap.size → RD B W (.slice none 0 0) []:=fun W hW=>⟨⟨none,0,rfl,Kd.C_nil _ _,Nat.le_refl _⟩,fun k hk=>(by simp [Value.ownBlock] at hk),hW⟩
 have H : ((althingref1_Take.f k l0).bind fun bt=>
  if bt.2.2 = true then (if bt.1 > wrap64 ((l0.length : Int) - bt.2.1) then some ([],0,false) else (if 0 ≤ bt.2.1 then (if bt.2.1 ≤ wrap64 (bt.2.1 + bt.1) then (if wrap64 (bt.2.1 + bt.1) ≤ (l0.length : Int) then some ((l0.take (wrap64 (bt.2.1 + bt.1)).toNat).drop bt.2.1.toNat,wrap64 (bt.2.1 + bt.1),true) else none) else none) else none)) else some ([],0,false)) = some (r1,r2,r3):=h
 clear h;obtain ⟨⟨t1,t2,t3⟩,A2,H⟩:=Option.bind_eq_some_iff.mp H;have A2:=am A2
 dsimp only at H
 cases t3 with
 | false=>
   rw [if_neg (by decide)] at H;simp only [Option.some.injEq,Prod.mk.injEq] at H;obtain ⟨rfl,rfl,rfl⟩:=H;go_enter Try.func64,Try.ntmps64
   go_wp2_with (go_at_call 63;((with_reducible refine (althingref1_Take.calls k _ _ l0 t1 t2 false _ HR0.out hc0 A2.out).mono ?_));rintro e w1 ⟨rfl,hb⟩;have HB:=am hb;clear hb)
   go_ret3
   exact ⟨_,rfl,nilR _ (Nat.le_trans hBw HB.out.size),HB.out⟩
 | true=>
   rw [if_pos rfl] at H
   by_cases c4 : t1 > wrap64 ((l0.length : Int) - t2)
   ·rw [if_pos c4] at H;have c4b0 : decide (wrap64 ((l0.length : Int) - t2) < t1) = true:=decide_eq_true c4;clear c4;simp only [Option.some.injEq,Prod.mk.injEq] at H;obtain ⟨rfl,rfl,rfl⟩:=H;go_enter Try.func64,Try.ntmps64
    go_wp2_with (go_at_call 63;((with_reducible refine (althingref1_Take.calls k _ _ l0 t1 t2 true _ HR0.out hc0 A2.out).mono ?_));rintro e w1 ⟨rfl,hb⟩;have HB:=am hb;clear hb)
    go_ret3
    exact ⟨_,rfl,nilR _ (Nat.le_trans hBw HB.out.size),HB.out⟩
   rw [if_neg c4] at H;have c4b0 : decide (wrap64 ((l0.length : Int) - t2) < t1) = false:=decide_eq_false c4;clear c4;obtain ⟨q,hq⟩ : ∃ q,wrap64 (t2 + t1) = q:=⟨_,rfl⟩;rw [hq] at H
   by_cases c6 : 0 ≤ t2
   rotate_left
   ·rw [if_neg c6] at H;cases H
   rw [if_pos c6] at H
   by_cases c7 : t2 ≤ q
   rotate_left
   ·rw [if_neg c7] at H;cases H
   rw [if_pos c7] at H
   by_cases c8 : q ≤ (l0.length : Int)
   rotate_left
   ·rw [if_neg c8] at H;cases H
   rw [if_pos c8] at H;simp only [Option.some.injEq,Prod.mk.injEq] at H;obtain ⟨rfl,rfl,rfl⟩:=H;obtain ⟨i0,hi0,_,hsz,_⟩:=info_parts info5;have hcut:=cut_mid (P:=Try.prog) 38 5 .i64 .i64 Try.underlying38 hi0 1 hsz A0 l0.length c0 t2 q c6 c7 c8 hc0;obtain ⟨A',hA'⟩ : ∃ A',(if c0 = t2.toNat then A0 else A0.map (·.add (t2.toNat * 1))) = A':=⟨_,rfl⟩;rw [hA'] at hcut;have hA':=Lib.hid hA';have hmid:=am (fun (W : World) (hC : Kd.C (Kd.int .u8) W A0 l0.length l0)=>Kd.C_mid (lo:=t2.toNat) (hi:=q.toNat) (c:=c0) hC (by omega) (by omega) hc0)
   have hlen : ((l0.take q.toNat).drop t2.toNat).length = q.toNat - t2.toNat:=by rw [List.length_drop,List.length_take];omega
   have hcap : ((l0.take q.toNat).drop t2.toNat).length ≤ c0 - t2.toNat:=by rw [hlen];omega
   have hlen:=Lib.hid hlen;have hcap:=Lib.hid hcap
   have hpos : 0 < (q.toNat - t2.toNat) → 0 < l0.length:=by omega
   have hpos:=Lib.hid hpos;go_enter Try.func64,Try.ntmps64
   go_wp2_with (go_at_call 63;((with_reducible refine (althingref1_Take.calls k _ _ l0 t1 t2 true _ HR0.out hc0 A2.out).mono ?_));rintro e w1 ⟨rfl,hb⟩;have HB:=am hb;clear hb)
   go_ret3
   have hM:=hmid.out _ (Kd.C_below HR0.out HB.out);rw [show (Kd.int .u8).sz = 1 from rfl,hA'.out] at hM;refine ⟨.slice A' (q.toNat - t2.toNat) (c0 - t2.toNat),by rw [← hq];rfl,⟨⟨A',c0 - t2.toNat,?_,hM,?_⟩,?_,?_⟩,HB.out⟩
   ·rw [hlen.out]
   ·exact hcap.out
   ·intro k hk
    have hp : 0 < l0.length:=by
     rcases Nat.eq_zero_or_pos l0.length with h0 | h0
     ·obtain rfl:=List.length_eq_zero_iff.1 h0;have:=A2.out
      simp [althingref1_Take.f] at this
     ·exact h0
    have hA':=hA'.out
    cases A0 with
    | none=>simp at hA';subst hA';simp [Value.ownBlock] at hk
    | some ad=>
      have:=HA.out ad rfl hp
      by_cases hc : c0 = t2.toNat
      ·simp [hc] at hA';subst hA';simp [Value.ownBlock] at hk;omega
      simp [hc] at hA';subst hA';simp [Value.ownBlock,addr_block] at hk;omega
   ·exact Nat.le_trans hBw HB.out.size
end Go.Proofs.Ytilckocpgififaa.G
/- Rows, plainly (without what chapter 1 asks of them). -/
namespace Go.Proofs.Ytilckocpgififaa.PNum
open Go.RowKit Go.Proofs.Ytilckocpgififaa.G Go.Proofs.YtilckocpgififaaW.PrintWords Go.Proofs.YtilckocpgififaaW.PrintMore Go.Proofs.YtilckocpgififaaW.PrintLast
set_option linter.unusedVariables false
set_option linter.unusedSimpArgs false
def rowsSize (l : List (List Int)) : Nat:=(l.map fun p=>1 + p.length).sum
theorem rowsSize_cons (p : List Int) (l : List (List Int)) : rowsSize (p :: l) = 1 + p.length + rowsSize l:=by simp [rowsSize]
theorem rd_L (l : List (List Int)) (i : Nat) (h : i < l.length) : rd_L4 l (i : Int) = l[i]:=by
 unfold rd_L4
 simp [List.getD_eq_getElem?_getD,h]
theorem length_le_rowsSize (l : List (List Int)) : l.length ≤ rowsSize l:=by
 induction l with
 | nil=>simp
 | cons p l ih=>rw [rowsSize_cons,List.length_cons];omega
theorem refNums_loop (ns : List Int) (d : Nat) : ∀ (k i : Nat) (b : List Int),i + d = ns.length → ns.length ≤ 1000000 → d + 16 ≤ k → b.length + 9 * d + 9 < 140737488355328 →
 althingref1_Nums.l0 k ns b i = some (b ++ numsB (ns.drop i)):=by
 induction d with
 | zero=>
   intro k i b hi hn hk hl;obtain ⟨k,rfl⟩ : ∃ q,k = q + 1:=⟨k - 1,by omega⟩;rw [althingref1_Nums.l0,if_neg (by omega),List.drop_eq_nil_of_le (by omega)]
   simp [numsB]
 | succ d ih=>
   intro k i b hi hn hk hl;obtain ⟨k,rfl⟩ : ∃ q,k = q + 1:=⟨k - 1,by omega⟩
   have hlt : i < ns.length:=by omega
   have e1 : wrap64 ((i : Int) + 1) = ((i + 1 : Nat) : Int):=by rw [wrap_in (by omega) (by omega)];omega
   have hs:=sizeN_range ns[i];have hz:=numB_length ns[i]
   have c1 : (i : Int) < (ns.length : Int):=by omega
   have c2 : (0 : Int) ≤ (i : Int):=by omega
   have c3 : b.length + (numB ns[i]).length < 140737488355328:=by omega
   have hi' : i + 1 + d = ns.length:=by omega
   have hk' : d + 16 ≤ k:=by omega
   have hl' : (b ++ numB ns[i]).length + 9 * d + 9 < 140737488355328:=by rw [List.length_append];omega
   rw [althingref1_Nums.l0,if_pos c1,if_pos c2,rd_nat ns i hlt,rnum_tells k _ (by omega),Option.bind_some,if_pos c3,e1];rw [ih k (i + 1) _ hi' hn hk' hl',List.drop_eq_getElem_cons hlt,numsB_cons]
   simp
theorem refNums_tells (k : Nat) (ns : List Int) (hn : ns.length ≤ 1000000) (hk : ns.length + 16 ≤ k) : althingref1_Nums.f k ns = some (numsB ns):=by
 exact refNums_loop ns ns.length k 0 [] (by omega) hn hk (by simp;omega)
def rowB (p : List Int) : List Int:=numB (p.length : Int) ++ p
def rowsB (l : List (List Int)) : List Int:=l.flatMap rowB
theorem rowsB_cons (p : List Int) (l : List (List Int)) : rowsB (p :: l) = rowB p ++ rowsB l:=rfl
theorem rowB_length (p : List Int) : (rowB p).length = sizeN p.length + p.length:=by unfold rowB;rw [List.length_append,numB_length]
theorem rowB_bytes {p : List Int} (h : IsBytes p) : IsBytes (rowB p):=(numB_bytes _).append h
theorem rowsB_bytes {l : List (List Int)} (h : ∀ p ∈ l,IsBytes p) : IsBytes (rowsB l):=by
 intro c hc;obtain ⟨p,hp,hcp⟩:=List.mem_flatMap.1 hc;exact rowB_bytes (h p hp) c hcp
theorem refRow_tells (k : Nat) (p : List Int) (hp : p.length < 140737488355300) (hk : 15 ≤ k) : althingref1_Row.f k p = some (rowB p):=by
 have hs:=sizeN_range (p.length : Int);have hz:=numB_length (p.length : Int)
 have c : (numB (p.length : Int)).length + p.length < 140737488355328:=by omega
 unfold althingref1_Row.f
 rw [rnum_tells k _ hk,Option.bind_some,if_pos c]
 rfl
theorem row_loop (ps : List (List Int)) (hps : rowsSize ps ≤ 1000000000) (d : Nat) : ∀ (k i : Nat) (b : List Int),i + d = ps.length → d + 11 ≤ k → b.length + 9 * rowsSize (ps.drop i) + 9 < 140737488355328 →
 compact_Row.l0 k b ps (ps.length : Int) i = some (b ++ rowsB (ps.drop i)):=by
 induction d with
 | zero=>
   intro k i b hi hk hl;obtain ⟨k,rfl⟩ : ∃ q,k = q + 1:=⟨k - 1,by omega⟩;rw [compact_Row.l0,if_neg (by omega),List.drop_eq_nil_of_le (by omega)]
   simp [rowsB]
 | succ d ih=>
   intro k i b hi hk hl;obtain ⟨k,rfl⟩ : ∃ q,k = q + 1:=⟨k - 1,by omega⟩
   have hlt : i < ps.length:=by omega
   have hll:=length_le_rowsSize ps
   have e1 : wrap64 ((i : Int) + 1) = ((i + 1 : Nat) : Int):=by rw [wrap_in (by omega) (by omega)];omega
   have hs:=sizeN_range (ps[i].length : Int);have hz:=numB_length (ps[i].length : Int);have hd:=List.drop_eq_getElem_cons hlt;rw [hd,rowsSize_cons] at hl
   have c1 : (i : Int) < (ps.length : Int):=by omega
   have c2 : (0 : Int) ≤ (i : Int):=by omega
   have c3 : (b ++ numB (ps[i].length : Int)).length + ps[i].length < 140737488355328:=by rw [List.length_append];omega
   have hi' : i + 1 + d = ps.length:=by omega
   have hk' : d + 11 ≤ k:=by omega
   have hl' : (b ++ numB (ps[i].length : Int) ++ ps[i]).length + 9 * rowsSize (ps.drop (i + 1)) + 9 < 140737488355328:=by rw [List.length_append,List.length_append];omega
   rw [compact_Row.l0,if_pos c1,if_pos c2,if_pos c1,rd_L ps i hlt,lays_tells k b _ (by omega) (by omega),Option.bind_some,if_pos c3,e1];rw [ih k (i + 1) _ hi' hk' hl',hd,rowsB_cons,rowB]
   simp
theorem row_tells (k : Nat) (b : List Int) (ps : List (List Int)) (hps : rowsSize ps ≤ 1000000000) (hk : ps.length + 11 ≤ k) (hb : b.length + 9 * rowsSize ps + 9 < 140737488355328) : compact_Row.f k b ps = some (b ++ rowsB ps):=by
 unfold compact_Row.f
 have hc : slices_Clone_byte_byte.f b = some b:=by
  unfold slices_Clone_byte_byte.f
  rw [Option.bind_some,if_pos (by simp;omega)];rfl
 rw [hc,Option.bind_some];exact row_loop ps hps ps.length k 0 b (by omega) hk (by simpa using hb)
/-! ### Cut -/
def cutN (b : List Int) : Option (List Int × Nat):=
 match takeN b with
 | none=>none
 | some (n,s)=>if (b.length : Int) - s < n then none else some ((b.take (s + n.toNat)).drop s,s + n.toNat)
def outC : Option (List Int × Nat) → List Int × Int × Bool
 | none=>([],0,false)
 | some (p,s)=>(p,(s : Int),true)
theorem clone_tells (l : List Int) (h : l.length < 140737488355328) : slices_Clone_byte_byte.f l = some l:=by
 unfold slices_Clone_byte_byte.f
 rw [Option.bind_some,if_pos (by simpa using h)];rfl
theorem cut_tells (k : Nat) (b : List Int) (hb : IsBytes b) (hl : b.length < 140737488355328) (hk : 10 ≤ k) : compact_Cut.f k b = some (outC (cutN b)):=by
 unfold compact_Cut.f cutN
 rw [ctake_tells k b hb hk,Option.bind_some]
 cases e : takeN b with
 | none=>rfl
 | some x=>
   obtain ⟨n,s⟩:=x;obtain ⟨q0,q1,q2,q3,q4⟩:=takeN_tells hb e;have hs:=sizeN_range n;rw [show outT (some (n,s)) = (n,(s : Int),true) from rfl]
   dsimp only
   have w1 : wrap64 ((b.length : Int) - (s : Int)) = (b.length : Int) - s:=wrap_in (by omega) (by omega);have w2 : wrap64 ((s : Int) + n) = (s : Int) + n:=wrap_in (by omega) (by omega);rw [if_pos rfl,w1,w2]
   by_cases h : n > (b.length : Int) - s
   ·rw [if_pos h,if_pos (by omega)];rfl
   have c1 : (0 : Int) ≤ (s : Int):=by omega
   have c2 : (s : Int) ≤ (s : Int) + n:=by omega
   have c3 : (s : Int) + n ≤ (b.length : Int):=by omega
   have t1 : ((s : Int) + n).toNat = s + n.toNat:=by omega
   have t2 : ((s : Int)).toNat = s:=by omega
   have hc : ((b.take (s + n.toNat)).drop s).length < 140737488355328:=by rw [List.length_drop,List.length_take];omega
   have hneg : ¬ ((b.length : Int) - s < n):=by omega
   rw [if_neg h,if_pos c1,if_pos c2,if_pos c3,t1,t2,clone_tells _ hc,Option.bind_some,if_neg hneg]
   show some (_,_,true) = some (_,_,true)
   congr 3
   omega
theorem rcut_tells (k : Nat) (b : List Int) (hb : IsBytes b) (hl : b.length < 140737488355328) (hk : 30 ≤ k) : althingref1_Cut.f k b = some (outC (cutN b)):=by
 unfold althingref1_Cut.f cutN
 rw [rtake_tells k b hb (by omega) hk,Option.bind_some]
 cases e : takeN b with
 | none=>rfl
 | some x=>
   obtain ⟨n,s⟩:=x;obtain ⟨q0,q1,q2,q3,q4⟩:=takeN_tells hb e;have hs:=sizeN_range n;rw [show outT (some (n,s)) = (n,(s : Int),true) from rfl]
   dsimp only
   have w1 : wrap64 ((b.length : Int) - (s : Int)) = (b.length : Int) - s:=wrap_in (by omega) (by omega);have w2 : wrap64 ((s : Int) + n) = (s : Int) + n:=wrap_in (by omega) (by omega);rw [if_pos rfl,w1,w2]
   by_cases h : n > (b.length : Int) - s
   ·rw [if_pos h,if_pos (by omega)];rfl
   have c1 : (0 : Int) ≤ (s : Int):=by omega
   have c2 : (s : Int) ≤ (s : Int) + n:=by omega
   have c3 : (s : Int) + n ≤ (b.length : Int):=by omega
   have t1 : ((s : Int) + n).toNat = s + n.toNat:=by omega
   have t2 : ((s : Int)).toNat = s:=by omega
   have hneg : ¬ ((b.length : Int) - s < n):=by omega
   rw [if_neg h,if_pos c1,if_pos c2,if_pos c3,t1,t2,if_neg hneg]
   show some (_,_,true) = some (_,_,true)
   congr 3
   omega
end Go.Proofs.Ytilckocpgififaa.PNum
/- What the readers of both sides share: bytes that are left, a number, a row taken off them, plainly; worlds that are kept but for some blocks. -/
namespace Go.Proofs.Ytilckocpgififaa.G
open Go.RowKit Go.Shelf Go.Proofs.YtilckocpgififaaW.PrintWords Go.Proofs.YtilckocpgififaaW.PrintMore Go.Proofs.Ytilckocpgififaa.PNum
set_option linter.unusedVariables false
set_option linter.unusedSimpArgs false
theorem cut_tail (t e : TypeId) {P : Program} {i : TypeInfo} (ht : P.underlying t = some (.slice e)) (hi : P.info? e = some i) (hsz : i.size = 1) (A : Option Addr) (c : Nat) (xs : List Int) (j : Nat) (hm : j ≤ xs.length) (hc : xs.length ≤ c) :
 ∃ A' : Option Addr,(∀ W : World,(Instr.slice t (.slice A xs.length c) (some (.int .i64 (j : Int))) none none).run P W = .ok (.slice A' (xs.length - j) (c - j)) W) ∧
   (∀ (k : IntKind) (w : World),Kd.C (Kd.int k) w A xs.length xs → Kd.C (Kd.int k) w A' (xs.drop j).length (xs.drop j)) ∧ xs.length - j ≤ c - j ∧ (∀ ad',A' = some ad' → ∃ ad,A = some ad ∧ ad'.block = ad.block):=by
 refine ⟨if c = j then A else A.map (·.add (j * 1)),fun W=>?_,fun k w h=>Kd.C_drop h hm hc,by omega,?_⟩
 ·exact cut_from (P:=P) t e .i64 ht hi 1 hsz A xs.length c (j : Int) (by omega) (by omega) W
 ·intro ad' e'
  by_cases h : c = j
  ·rw [if_pos h] at e';exact ⟨ad',e',rfl⟩
  rw [if_neg h] at e'
  cases A with
  | none=>cases e'
  | some ad=>simp at e';subst e';exact ⟨ad,rfl,addr_block _ _⟩
theorem C_stays {k : IntKind} {W W' : World} {A : Option Addr} {n : Nat} {xs : List Int} (h : Kd.C (Kd.int k) W A n xs) (hb : ∀ ad,A = some ad → 0 < n → W'.heap[ad.block]? = W.heap[ad.block]?) : Kd.C (Kd.int k) W' A n xs:=by
 refine ⟨h.1,h.2.1,fun h0=>?_⟩;obtain ⟨ad,e,hc⟩:=h.2.2 h0;refine ⟨ad,e,fun j p hj=>?_⟩;obtain ⟨c,hl,hr,hcell⟩:=hc j p hj;refine ⟨c,hl,hr,fun i u hu=>?_⟩;have hq:=World.cell?_of_block (w:=W) (w':=W') (a:=ad.add (j * (Kd.int k).sz + i)) (by rw [addr_block];exact hb ad e h0);rw [hq];exact hcell i u hu
/-! ### worlds that are kept but for some blocks -/
structure Kept (bad : Nat → Prop) (w w' : World) : Prop where
 os : w'.os = w.os
 tape : w'.tape = w.tape
 output : w'.output = w.output
 size : w.heap.size ≤ w'.heap.size
 block : ∀ k,k < w.heap.size → ¬ bad k → w'.heap[k]? = w.heap[k]?
theorem Kept.refl (bad : Nat → Prop) (w : World) : Kept bad w w:=⟨rfl,rfl,rfl,Nat.le_refl _,fun _ _ _=>rfl⟩
theorem Kept.below {bad : Nat → Prop} {w w' w'' : World} (h : Kept bad w w') (k : Below w'.heap.size w' w'') : Kept bad w w'':=
 ⟨k.os.trans h.os,k.tape.trans h.tape,k.output.trans h.output,Nat.le_trans h.size k.size,fun b hb hne=>(k.block b (Nat.lt_of_lt_of_le hb h.size)).trans (h.block b hb hne)⟩
theorem Kept.step {bad : Nat → Prop} {w w' w'' : World} (h : Kept bad w w') (k : Kept bad w' w'') : Kept bad w w'':=
 ⟨k.os.trans h.os,k.tape.trans h.tape,k.output.trans h.output,Nat.le_trans h.size k.size,fun b hb hne=>(k.block b (Nat.lt_of_lt_of_le hb h.size) hne).trans (h.block b hb hne)⟩
theorem Kept.mono {bad bad' : Nat → Prop} {w w' : World} (h : Kept bad w w') (hb : ∀ k,bad k → bad' k) : Kept bad' w w':=⟨h.os,h.tape,h.output,h.size,fun k hk hne=>h.block k hk (fun q=>hne (hb k q))⟩
theorem Kept.set {bad : Nat → Prop} {w w' : World} (h : Kept bad w w') {g : Nat} (hg : bad g) (i : Nat) (v : Value) : Kept bad w (w'.setCell ⟨g,i,none⟩ v):=
 ⟨h.os,h.tape,h.output,by rw [World.size_setCell];exact h.size,fun k hk hne=>(Below.heap_setCell w' ⟨g,i,none⟩ v k (fun e=>hne (by rw [show k = g from e];exact hg))).trans (h.block k hk hne)⟩
theorem Kept.drew {bad : Nat → Prop} {w w' : World} (h : Kept bad w w') : Kept bad w w'.drew:=⟨h.os,h.tape,h.output,h.size,h.block⟩
theorem Kept.to_below {bad : Nat → Prop} {B : Nat} {w0 w w' : World} (h : Kept bad w w') (hb : Below B w0 w) (hB : B ≤ w.heap.size) (hn : ∀ k,bad k → B ≤ k) : Below B w0 w':=
 ⟨h.os.trans hb.os,h.tape.trans hb.tape,h.output.trans hb.output,Nat.le_trans hb.size h.size,fun k hk=>(h.block k (Nat.lt_of_lt_of_le hk hB) (fun q=>by have:=hn k q;omega)).trans (hb.block k hk)⟩
theorem Lies.kept {bad : Nat → Prop} {w w' : World} {g : Nat} {L : List Value} (h : Lies w g L) (hk : Kept bad w w') (h0 : 0 < L.length) (hg : ¬ bad g) : Lies w' g L:=h.of_block (hk.block g (h.lt h0) hg)
/-! ### numbers off bytes -/
def numT (l : List Int) : Int × Nat × Bool:=match takeN l with
 | some (v,s)=>(v,s,true)
 | none=>(0,0,false)
theorem numT_out (l : List Int) : outT (takeN l) = ((numT l).1,((numT l).2.1 : Int),(numT l).2.2):=by
 unfold numT
 cases takeN l <;> rfl
theorem numT_size {l : List Int} (hl : IsBytes l) : (numT l).2.1 ≤ l.length:=by
 unfold numT
 cases h : takeN l with
 | none=>exact Nat.zero_le _
 | some q=>obtain ⟨v,s⟩:=q;exact (takeN_tells hl h).2.2.2.1
theorem numT_range {l : List Int} (hl : IsBytes l) : 0 ≤ (numT l).1 ∧ (numT l).1 ≤ 4611686018427387904:=by
 unfold numT
 cases h : takeN l with
 | none=>exact ⟨Int.le_refl _,by decide⟩
 | some q=>obtain ⟨v,s⟩:=q;exact ⟨(takeN_tells hl h).1,(takeN_tells hl h).2.1⟩
def rowT (l : List Int) : List Int × Nat × Bool:=match cutN l with
 | some (p,s)=>(p,s,true)
 | none=>([],0,false)
theorem rowT_out (l : List Int) : outC (cutN l) = ((rowT l).1,((rowT l).2.1 : Int),(rowT l).2.2):=by
 unfold rowT
 cases cutN l <;> rfl
theorem rowT_size {l : List Int} (hl : IsBytes l) : (rowT l).2.1 ≤ l.length ∧ (rowT l).1.length ≤ l.length ∧ IsBytes (rowT l).1:=by
 unfold rowT cutN
 cases h : takeN l with
 | none=>exact ⟨Nat.zero_le _,Nat.zero_le _,fun c hc=>by cases hc⟩
 | some q=>
   obtain ⟨v,s⟩:=q;have ht:=takeN_tells hl h
   by_cases hlt : (l.length : Int) - s < v
   ·simp only [if_pos hlt];exact ⟨Nat.zero_le _,Nat.zero_le _,fun c hc=>by cases hc⟩
   simp only [if_neg hlt];refine ⟨by omega,by rw [List.length_drop,List.length_take];omega,(hl.take _).drop _⟩
/-! ### a reader in memory -/
structure ReadAt (B : Nat) (w : World) (R g1 g2 : Nat) (A : Option Addr) (c : Nat) (l : List Int) (ok : Bool) (L1 L2 : List Value) : Prop where
 reader : Lies w R [.slice A l.length c,.bool ok]
 cap : l.length ≤ c
 row : Kd.C (Kd.int .u8) w A l.length l
 far : ∀ ad,A = some ad → 0 < l.length → ad.block < B
 bytes : IsBytes l
 short : l.length < 140737488355328
 one : Lies w g1 L1
 two : Lies w g2 L2
 atR : B ≤ R
 at1 : B ≤ g1
 at2 : B ≤ g2
 r1 : g1 ≠ R
 r2 : g2 ≠ R
 g12 : g1 ≠ g2
 p1 : 0 < L1.length
 p2 : 0 < L2.length
section
variable {B : Nat} {w w' : World} {R g1 g2 : Nat} {A A' : Option Addr} {c c' : Nat} {l l' : List Int} {ok : Bool} {L1 L2 : List Value}
theorem ReadAt.below (h : ReadAt B w R g1 g2 A c l ok L1 L2) (hb : Below w.heap.size w w') : ReadAt B w' R g1 g2 A c l ok L1 L2:=
 { h with reader:=h.reader.below hb (h.reader.lt (by simp)),row:=Kd.C_below h.row hb,one:=h.one.below hb (h.one.lt h.p1),two:=h.two.below hb (h.two.lt h.p2) }
theorem ReadAt.drew (h : ReadAt B w R g1 g2 A c l ok L1 L2) : ReadAt B w.drew R g1 g2 A c l ok L1 L2:=
 { h with reader:=h.reader.drew,row:=Kd.C_drew h.row,one:=h.one.drew,two:=h.two.drew }
theorem ReadAt.swap (h : ReadAt B w R g1 g2 A c l ok L1 L2) : ReadAt B w R g2 g1 A c l ok L2 L1:=
 { h with one:=h.two,two:=h.one,at1:=h.at2,at2:=h.at1,r1:=h.r2,r2:=h.r1,g12:=h.g12.symm,p1:=h.p2,p2:=h.p1 }
theorem ReadAt.row_set (h : ReadAt B w R g1 g2 A c l ok L1 L2) {g : Nat} (hg : B ≤ g) (i : Nat) (v : Value) : Kd.C (Kd.int .u8) (w.setCell ⟨g,i,none⟩ v) A l.length l:=
 C_stays h.row (fun ad e hn=>Below.heap_setCell w ⟨g,i,none⟩ _ _ (fun q=>by have:=h.far ad e hn;have q' : ad.block = g:=q;omega))
theorem ReadAt.setOk (h : ReadAt B w R g1 g2 A c l ok L1 L2) (b : Bool) : ReadAt B (w.setCell ⟨R,1,none⟩ (.bool b)) R g1 g2 A c l b L1 L2:=
 { h with reader:=h.reader.set 1 (by simp) _,row:=h.row_set h.atR _ _,one:=h.one.set_far h.r1 _ _,two:=h.two.set_far h.r2 _ _ }
theorem ReadAt.setRest (h : ReadAt B w R g1 g2 A c l ok L1 L2) (hc : l'.length ≤ c') (hr : Kd.C (Kd.int .u8) w A' l'.length l') (hl : IsBytes l') (hs : l'.length < 140737488355328)
 (hA : ∀ ad',A' = some ad' → 0 < l'.length → ad'.block < B) : ReadAt B (w.setCell ⟨R,0,none⟩ (.slice A' l'.length c')) R g1 g2 A' c' l' ok L1 L2:=
 { h with reader:=h.reader.set 0 (by simp) _,cap:=hc,row:=C_stays hr (fun ad e hn=>Below.heap_setCell w ⟨R,0,none⟩ _ _ (fun q=>by have:=hA ad e hn;have:=h.atR;have q' : ad.block = R:=q;omega)),far:=hA,bytes:=hl,short:=hs,one:=h.one.set_far h.r1 _ _,two:=h.two.set_far h.r2 _ _ }
theorem ReadAt.setOne (h : ReadAt B w R g1 g2 A c l ok L1 L2) (o : Nat) (ho : o < L1.length) (v : Value) : ReadAt B (w.setCell ⟨g1,o,none⟩ v) R g1 g2 A c l ok (L1.set o v) L2:=
 { h with reader:=h.reader.set_far h.r1.symm _ _,row:=h.row_set h.at1 _ _,one:=h.one.set o ho v,two:=h.two.set_far h.g12.symm _ _,p1:=by rw [List.length_set];exact h.p1 }
theorem ReadAt.kept {bad : Nat → Prop} (h : ReadAt B w R g1 g2 A c l ok L1 L2) (hk : Kept bad w w') (hb : ∀ k,bad k → B ≤ k) (hR : ¬ bad R) (h1 : ¬ bad g1) (h2 : ¬ bad g2) : ReadAt B w' R g1 g2 A c l ok L1 L2:=
 { h with reader:=h.reader.kept hk (by simp) hR,row:=C_stays h.row (fun ad e hn=>hk.block _ (by subst e;exact Kd.C_lt h.row hn (by decide)) (fun q=>by have:=hb _ q;have:=h.far ad e hn;omega)),one:=h.one.kept hk h.p1 h1,two:=h.two.kept hk h.p2 h2 }
end
def numsW : List (Bool × Nat) → List Int → Bool → List Value → List Value → List Int × Bool × List Value × List Value
 | [],l,ok,L1,L2=>(l,ok,L1,L2)
 | (b,o) :: ps,l,ok,L1,L2=>numsW ps (l.drop (numT l).2.1) (ok && (numT l).2.2) (if b = true then L1.set o (.int .i64 (numT l).1) else L1) (if b = true then L2 else L2.set o (.int .i64 (numT l).1))
end Go.Proofs.Ytilckocpgififaa.G
/- Calls as bytes, plainly: what code.call, code.EncodeCall and the reference's call compute; how large a call is told. -/
namespace Go.Proofs.Ytilckocpgififaa.PNum
open Go.RowKit Go.Proofs.Ytilckocpgififaa.G Go.Proofs.YtilckocpgififaaW.PrintWords Go.Proofs.YtilckocpgififaaW.PrintMore Go.Proofs.YtilckocpgififaaW.PrintLast
set_option linter.unusedVariables false
set_option linter.unusedSimpArgs false
def encC : Nat → S25 → List Int
 | 0,c=>numsB [c.f0,c.f1,c.f2,(c.f3.length : Int)]
 | f + 1,c=>numsB [c.f0,c.f1,c.f2,(c.f3.length : Int)] ++ rowsB (c.f3.map (encC f))
def mostC : Nat → Nat
 | 0=>36
 | f + 1=>36 + 4 * (9 + mostC f)
theorem okT_kids {f : Nat} {c : S25} (h : okT (f + 1) c = true) : c.f3.length ≤ 4 ∧ ∀ x ∈ c.f3,okT f x = true:=by
 unfold okT okC at h
 by_cases h5 : c.f0 = 5
 ·rw [if_pos h5] at h;simp only [Bool.and_eq_true,decide_eq_true_eq,List.all_eq_true] at h;exact ⟨h.1.2.2,h.2⟩
 rw [if_neg h5] at h
 have h0 : c.f3.length = 0:=by
  unfold leafOk at h
  split at h
  ·simp only [Bool.and_eq_true,decide_eq_true_eq] at h;exact h.1.1
  ·split at h
   ·simp only [Bool.and_eq_true,decide_eq_true_eq] at h;exact h.1.1
   ·split at h
    ·simp only [Bool.and_eq_true,decide_eq_true_eq] at h;exact h.1.1
    ·cases h
 have e:=List.eq_nil_of_length_eq_zero h0;rw [e];exact ⟨by simp,fun x hx=>by cases hx⟩
theorem okT_leaf {c : S25} (h : okT 0 c = true) : c.f3 = []:=by
 unfold okT okC leafOk at h
 apply List.eq_nil_of_length_eq_zero
 split at h
 ·simp only [Bool.and_eq_true,decide_eq_true_eq] at h;exact h.1.1
 ·split at h
  ·simp only [Bool.and_eq_true,decide_eq_true_eq] at h;exact h.1.1
  ·split at h
   ·simp only [Bool.and_eq_true,decide_eq_true_eq] at h;exact h.1.1
   ·cases h
theorem rowsB_most (m : Nat) (l : List (List Int)) (h : ∀ x ∈ l,x.length ≤ m) : (rowsB l).length ≤ l.length * (9 + m):=by
 induction l with
 | nil=>simp [rowsB]
 | cons p l ih=>
   have h1:=h p (by simp);have h2:=ih (fun x hx=>h x (by simp [hx]));have h3:=sizeN_range (p.length : Int);rw [rowsB_cons,List.length_append,rowB_length,List.length_cons,Nat.add_mul]
   omega
theorem encC_most : ∀ (f : Nat) (c : S25),okT f c = true → (encC f c).length ≤ mostC f
 | 0,c,h=>by have:=numsB_length [c.f0,c.f1,c.f2,(c.f3.length : Int)];simp only [encC,mostC,List.length_cons,List.length_nil] at *;omega
 | f + 1,c,h=>by
   obtain ⟨h4,hk⟩:=okT_kids h;have h1:=numsB_length [c.f0,c.f1,c.f2,(c.f3.length : Int)]
   have h2:=rowsB_most (mostC f) (c.f3.map (encC f)) (by
    intro x hx;obtain ⟨y,hy,rfl⟩:=List.mem_map.1 hx
    exact encC_most f y (hk y hy))
   have h3:=Nat.mul_le_mul_right (9 + mostC f) h4;rw [List.length_map] at h2;simp only [encC,mostC,List.length_append,List.length_cons,List.length_nil] at *
   omega
theorem mostC_small {f : Nat} (h : f ≤ 3) : mostC f ≤ 3816:=by
 match f,h with
 | 0,_=>decide
 | 1,_=>decide
 | 2,_=>decide
 | 3,_=>decide
theorem encC_bytes : ∀ (f : Nat) (c : S25),IsBytes (encC f c)
 | 0,c=>numsB_bytes _
 | f + 1,c=>(numsB_bytes _).append (rowsB_bytes (by
     intro p hp;obtain ⟨y,_,rfl⟩:=List.mem_map.1 hp
     exact encC_bytes f y))
theorem rd_natT (l : List S25) (i : Nat) (h : i < l.length) : rd_T25 l (i : Int) = l[i]:=rd_T l i h
theorem call_loop (f : Nat) (hf : f ≤ 3) (l : List S25) (h4 : l.length ≤ 4) (N : Nat) (hN : 12 ≤ N) (ih : ∀ x ∈ l,okT f x = true → ∀ k,N ≤ k → code_call.f k x.f0 x.f1 x.f2 x.f3 = some (encC f x)) (hok : ∀ x ∈ l,okT f x = true) (d : Nat) :
 ∀ (k i : Nat) (b : List Int),i + d = l.length → d + N < k → b.length + 4000 * d < 1000000 → code_call.l0 k b l (l.length : Int) i = some (b ++ rowsB ((l.drop i).map (encC f))):=by
 induction d with
 | zero=>
   intro k i b hi hk hb;obtain ⟨k,rfl⟩ : ∃ q,k = q + 1:=⟨k - 1,by omega⟩;rw [code_call.l0,if_neg (by omega),List.drop_eq_nil_of_le (by omega)]
   simp [rowsB]
 | succ d ihd=>
   intro k i b hi hk hb;obtain ⟨k,rfl⟩ : ∃ q,k = q + 1:=⟨k - 1,by omega⟩
   have hlt : i < l.length:=by omega
   have e1 : wrap64 ((i : Int) + 1) = ((i + 1 : Nat) : Int):=by rw [wrap_in (by omega) (by omega)];omega
   have c1 : (i : Int) < (l.length : Int):=by omega
   have c2 : (0 : Int) ≤ (i : Int):=by omega
   have hm:=List.getElem_mem hlt;have hlen:=encC_most f _ (hok _ hm);have hsm:=mostC_small hf
   have hsz : rowsSize [encC f l[i]] = 1 + (encC f l[i]).length:=by simp [rowsSize]
   have hbs:=sizeN_range ((encC f l[i]).length : Int);have hr:=row_tells k b [encC f l[i]] (by omega) (by simp;omega) (by omega)
   have hrl : (rowsB [encC f l[i]]).length ≤ 9 + mostC f:=by rw [rowsB_cons,List.length_append,rowB_length];simp only [rowsB,List.flatMap_nil,List.length_nil];omega
   rw [code_call.l0,if_pos c1,if_pos c2,if_pos c1,rd_natT l i hlt,ih _ hm (hok _ hm) k (by omega),Option.bind_some,hr,Option.bind_some,e1];rw [ihd k (i + 1) _ (by omega) (by omega) (by rw [List.length_append];omega),List.drop_eq_getElem_cons hlt,List.map_cons,rowsB_cons,List.append_assoc]
   simp [rowsB]
def needC (f : Nat) : Nat:=20 + 10 * f
theorem call_tells : ∀ (f : Nat) (hf : f ≤ 3) (c : S25),okT f c = true → ∀ k,needC f ≤ k → code_call.f k c.f0 c.f1 c.f2 c.f3 = some (encC f c):=by
 intro f
 induction f with
 | zero=>
   intro hf c h k hk
   unfold needC at hk
   obtain ⟨k,rfl⟩ : ∃ q,k = q + 2:=⟨k - 2,by omega⟩;have hp:=put_tells (k + 1) [] [c.f0,c.f1,c.f2,(c.f3.length : Int)] (by simp) (by simp;omega) (by simp);have e:=okT_leaf h;rw [code_call.f,hp,Option.bind_some,code_call.l0];rw [if_neg (by rw [e];simp)]
   simp [encC]
 | succ f ih=>
   intro hf c h k hk;obtain ⟨h4,hok⟩:=okT_kids h
   have hk' : needC f + 10 ≤ k:=by unfold needC at *;omega
   have hN : 12 ≤ needC f:=by unfold needC;omega
   obtain ⟨k,rfl⟩ : ∃ q,k = q + 1:=⟨k - 1,by omega⟩;have hp:=put_tells k [] [c.f0,c.f1,c.f2,(c.f3.length : Int)] (by simp) (by simp;omega) (by simp);have hl:=numsB_length [c.f0,c.f1,c.f2,(c.f3.length : Int)];simp only [List.length_cons,List.length_nil] at hl;rw [code_call.f,hp,Option.bind_some,List.nil_append];rw [show (0 : Int) = ((0 : Nat) : Int) from rfl];rw [call_loop f (by omega) c.f3 h4 (needC f) hN (fun x hx hx' q hq=>ih (by omega) x hx' q hq) hok c.f3.length k 0 _ (by omega) (by omega) (by omega)]
   simp [encC]
theorem isCall_tells (c : S25) : code_IsCall.f c.f0 c.f1 c.f2 c.f3 = some (okT 3 c):=by
 unfold code_IsCall.f code_isCall.f
 rw [if_pos rfl];rfl
/-! ### the reference's call -/
theorem rin_tells (a b c : Int) : althingref7_in.f a b c = some (decide (b ≤ a ∧ a ≤ c)):=by
 unfold althingref7_in.f
 by_cases h : a ≥ b
 ·rw [if_pos h];congr 1;simp;omega
 rw [if_neg h];congr 1;symm;exact decide_eq_false (by omega)
theorem rcall_loop (f : Nat) (l : List S25) (h4 : l.length ≤ 4) (dp : Int) (hd : 0 ≤ dp ∧ dp ≤ 10) (k0 k1 k2 : Int) (N : Nat) (ih : ∀ x ∈ l,∀ k,N ≤ k → althingref7_call.f k x.f0 x.f1 x.f2 x.f3 (dp + 1) = some (okT f x)) (d : Nat) :
 ∀ (k i : Nat),i + d = l.length → d + N < k → althingref7_call.l0 k dp i k0 k1 k2 l = some ((l.drop i).all (okT f)):=by
 induction d with
 | zero=>
   intro k i hi hk;obtain ⟨k,rfl⟩ : ∃ q,k = q + 1:=⟨k - 1,by omega⟩;rw [althingref7_call.l0,if_neg (by omega),List.drop_eq_nil_of_le (by omega)]
   rfl
 | succ d ihd=>
   intro k i hi hk;obtain ⟨k,rfl⟩ : ∃ q,k = q + 1:=⟨k - 1,by omega⟩
   have hlt : i < l.length:=by omega
   have e1 : wrap64 ((i : Int) + 1) = ((i + 1 : Nat) : Int):=by rw [wrap_in (by omega) (by omega)];omega
   have e2 : wrap64 (dp + 1) = dp + 1:=wrap_in (by omega) (by omega)
   have c1 : (i : Int) < (l.length : Int):=by omega
   have c2 : (0 : Int) ≤ (i : Int):=by omega
   have hm:=List.getElem_mem hlt;rw [althingref7_call.l0,if_pos c1,if_pos c2,rd_natT l i hlt,e2,ih _ hm k (by omega),Option.bind_some,e1,List.drop_eq_getElem_cons hlt,List.all_cons]
   by_cases h : okT f l[i] = true
   rotate_left
   ·rw [if_neg h,Bool.eq_false_iff.2 h];rfl
   rw [if_pos h,ihd k (i + 1) (by omega) (by omega),h];rfl
theorem rcall_tells : ∀ (f : Nat) (dp : Int),dp + f = 3 → 0 ≤ dp → ∀ (c : S25) (k : Nat),10 + 10 * f ≤ k → althingref7_call.f k c.f0 c.f1 c.f2 c.f3 dp = some (okT f c):=by
 intro f
 induction f with
 | zero=>
   intro dp hd h0 c k hk;obtain ⟨k,rfl⟩ : ∃ q,k = q + 5:=⟨k - 5,by omega⟩
   have hdp : dp = 3:=by omega
   subst hdp
   unfold okT okC leafOk
   by_cases h5 : c.f0 = 5
   ·simp only [althingref7_call.f,althingref7_call.j0,althingref7_call.j1,althingref7_call.j2,rin_tells,h5,Option.bind_some]
    simp
   by_cases h0 : c.f3.length = 0
   rotate_left
   ·have hp : (c.f3.length : Int) > 0:=by omega
    rw [althingref7_call.f,if_neg h5,if_pos hp,althingref7_call.j0,if_pos rfl]
    congr 1
    simp [h0]
   by_cases h1 : c.f0 = 1
   ·simp only [althingref7_call.f,althingref7_call.j0,althingref7_call.j1,althingref7_call.j2,rin_tells,h1,h0,Option.bind_some]
    by_cases t : c.f1 = 0 <;> simp [t]
   by_cases h2 : c.f0 = 2
   ·simp only [althingref7_call.f,althingref7_call.j0,althingref7_call.j1,althingref7_call.j2,rin_tells,h2,h0,Option.bind_some]
    by_cases t : 0 ≤ c.f1 ∧ c.f1 ≤ 9 <;> simp [t]
   by_cases h3 : c.f0 = 3
   ·simp only [althingref7_call.f,althingref7_call.j0,althingref7_call.j1,althingref7_call.j2,rin_tells,h3,h0,Option.bind_some]
    by_cases t : c.f1 = 0 <;> simp [t]
   by_cases h4 : c.f0 = 4
   ·simp only [althingref7_call.f,althingref7_call.j0,althingref7_call.j1,althingref7_call.j2,rin_tells,h4,h0,Option.bind_some]
    by_cases t : c.f1 = 0 <;> simp [t]
   simp only [althingref7_call.f,althingref7_call.j0,althingref7_call.j1,althingref7_call.j2,rin_tells,h5,h1,h2,h3,h4,h0,Option.bind_some]
   by_cases t : c.f1 = 0 <;> simp [t,h3,h4]
 | succ f ih=>
   intro dp hd h0 c k hk;have e2 : wrap64 (dp + 1) = dp + 1:=wrap_in (by omega) (by omega)
   by_cases h5 : c.f0 = 5
   ·obtain ⟨k,rfl⟩ : ∃ q,k = q + 4:=⟨k - 4,by omega⟩
    unfold okT okC
    rw [if_pos h5]
    have hdd : ¬ dp ≥ 3:=by omega
    have hi:=fun h4=>rcall_loop f c.f3 h4 dp (by omega) c.f0 c.f1 c.f2 (10 + 10 * f) (fun x _ q hq=>ih (dp + 1) (by omega) (by omega) x q hq) c.f3.length k 0 (by omega) (by omega);rw [show ((0 : Nat) : Int) = 0 from rfl,List.drop_zero] at hi;rw [althingref7_call.f,if_pos h5,if_neg (by omega),althingref7_call.j0]
    by_cases t : c.f1 = 0
    rotate_left
    ·have t1 : (c.f1 != 0) = true:=by simp [t]
     rw [t1,if_pos rfl];simp [t]
    have t1 : (c.f1 != 0) = false:=by simp [t]
    rw [t1,if_neg (by simp),if_neg (by omega),if_neg (by omega),if_neg (by omega),althingref7_call.j1,if_neg (by simp;omega),if_pos h5]
    by_cases n : c.f2 = 0
    rotate_left
    ·rw [if_neg n,althingref7_call.j2,if_pos rfl];simp [n]
    rw [if_pos n,rin_tells,Option.bind_some]
    by_cases l4 : c.f3.length ≤ 4 ∧ 1 ≤ c.f3.length
    ·rw [if_pos (decide_eq_true (by omega)),althingref7_call.j2,if_neg (by simp;omega),hi (by omega)]
     simp [t,n,l4]
    rw [if_neg (by simp;omega),althingref7_call.j2,if_pos rfl]
    congr 1;symm
    have : decide (1 ≤ c.f3.length ∧ c.f3.length ≤ 4) = false:=decide_eq_false (by omega);simp only [this,Bool.and_false,Bool.false_and]
   have hleaf : althingref7_call.f k c.f0 c.f1 c.f2 c.f3 dp = some (leafOk c.f0 c.f1 c.f2 c.f3):=by
    obtain ⟨k,rfl⟩ : ∃ q,k = q + 5:=⟨k - 5,by omega⟩
    unfold leafOk
    by_cases h0 : c.f3.length = 0
    rotate_left
    ·have hp : (c.f3.length : Int) > 0:=by omega
     rw [althingref7_call.f,if_neg h5,if_pos hp,althingref7_call.j0,if_pos rfl]
     congr 1
     simp [h0]
    by_cases h1 : c.f0 = 1
    ·simp only [althingref7_call.f,althingref7_call.j0,althingref7_call.j1,althingref7_call.j2,rin_tells,h1,h0,Option.bind_some]
     by_cases t : c.f1 = 0 <;> simp [t]
    by_cases h2 : c.f0 = 2
    ·simp only [althingref7_call.f,althingref7_call.j0,althingref7_call.j1,althingref7_call.j2,rin_tells,h2,h0,Option.bind_some]
     by_cases t : 0 ≤ c.f1 ∧ c.f1 ≤ 9 <;> simp [t]
    by_cases h3 : c.f0 = 3
    ·simp only [althingref7_call.f,althingref7_call.j0,althingref7_call.j1,althingref7_call.j2,rin_tells,h3,h0,Option.bind_some]
     by_cases t : c.f1 = 0 <;> simp [t]
    by_cases h4 : c.f0 = 4
    ·simp only [althingref7_call.f,althingref7_call.j0,althingref7_call.j1,althingref7_call.j2,rin_tells,h4,h0,Option.bind_some]
     by_cases t : c.f1 = 0 <;> simp [t]
    simp only [althingref7_call.f,althingref7_call.j0,althingref7_call.j1,althingref7_call.j2,rin_tells,h5,h1,h2,h3,h4,h0,Option.bind_some]
    by_cases t : c.f1 = 0 <;> simp [t,h3,h4]
   rw [hleaf]
   unfold okT okC
   rw [if_neg h5]
theorem risCall_tells (c : S25) (k : Nat) (hk : 40 ≤ k) : althingref7_IsCall.f k c.f0 c.f1 c.f2 c.f3 = some (okT 3 c):=by
 unfold althingref7_IsCall.f
 rw [rcall_tells 3 0 (by omega) (by omega) c k (by omega)];rfl
/-! ### how large a call is told -/
theorem call_ind {p : S25 → Prop} (h : ∀ c : S25,(∀ x ∈ c.f3,p x) → p c) : ∀ c,p c
 | ⟨a,b,n,l⟩=>h _ (fun x hx=>call_ind h x)
termination_by c=>SizeOf.sizeOf c
decreasing_by
 have:=List.sizeOf_lt_of_mem hx;simp only [S25.mk.sizeOf_spec] at *
 omega
theorem size_mono (c : S25) {k k' : Nat} (h : k ≤ k') {r : Int} (hr : althinglaw7_size.f k c.f0 c.f1 c.f2 c.f3 = some r) : althinglaw7_size.f k' c.f0 c.f1 c.f2 c.f3 = some r:=by
 induction h with
 | refl=>exact hr
 | step _ ih=>exact althinglaw7_size.mono _ _ _ _ _ _ ih
theorem size_loop (l : List S25) (hl : l.length ≤ 9223372036854775807) (a b c : Int) (K : Nat) (ih : ∀ x ∈ l,∀ k,K ≤ k → ∃ r,althinglaw7_size.f k x.f0 x.f1 x.f2 x.f3 = some r) (d : Nat) :
 ∀ (k i : Nat) (n : Int),i + d = l.length → d + K < k → ∃ r,althinglaw7_size.l0 k n i a b c l = some r:=by
 induction d with
 | zero=>
   intro k i n hi hk;obtain ⟨k,rfl⟩ : ∃ q,k = q + 1:=⟨k - 1,by omega⟩;exact ⟨n,by rw [althinglaw7_size.l0,if_neg (by omega)]⟩
 | succ d ihd=>
   intro k i n hi hk;obtain ⟨k,rfl⟩ : ∃ q,k = q + 1:=⟨k - 1,by omega⟩
   have hlt : i < l.length:=by omega
   have e1 : wrap64 ((i : Int) + 1) = ((i + 1 : Nat) : Int):=by rw [wrap_in (by omega) (by omega)];omega
   have c1 : (i : Int) < (l.length : Int):=by omega
   have c2 : (0 : Int) ≤ (i : Int):=by omega
   by_cases h3 : n < 300
   rotate_left
   ·exact ⟨n,by rw [althinglaw7_size.l0,if_pos c1,if_neg h3]⟩
   obtain ⟨r,hr⟩:=ih _ (List.getElem_mem hlt) k (by omega);obtain ⟨q,hq⟩:=ihd k (i + 1) (wrap64 (n + r)) (by omega) (by omega);exact ⟨q,by rw [althinglaw7_size.l0,if_pos c1,if_pos h3,if_pos c2,rd_natT l i hlt,hr,Option.bind_some,e1];exact hq⟩
def Fits : Nat → S25 → Prop
 | 0,_=>False
 | f + 1,c=>c.f3.length ≤ 9223372036854775807 ∧ ∀ x ∈ c.f3,Fits f x
theorem size_some : ∀ (f : Nat) (c : S25),Fits f c → ∃ k r,althinglaw7_size.f k c.f0 c.f1 c.f2 c.f3 = some r
 | 0,c,h=>h.elim
 | f + 1,c,⟨hl,h⟩=>by
   have hK : ∀ l : List S25,(∀ x ∈ l,Fits f x) → ∃ K,∀ x ∈ l,∀ k,K ≤ k → ∃ r,althinglaw7_size.f k x.f0 x.f1 x.f2 x.f3 = some r:=by
    intro l
    induction l with
    | nil=>intro _;exact ⟨0,fun x hx=>by cases hx⟩
    | cons x l ih=>
      intro hx;obtain ⟨K,hK⟩:=ih (fun y hy=>hx y (by simp [hy]));obtain ⟨k,r,hr⟩:=size_some f x (hx x (by simp));refine ⟨K + k,fun y hy q hq=>?_⟩
      rcases List.mem_cons.1 hy with rfl | hy
      ·exact ⟨r,size_mono y (by omega) hr⟩
      ·exact hK y hy q (by omega)
   obtain ⟨K,hK⟩:=hK c.f3 h;obtain ⟨r,hr⟩:=size_loop c.f3 hl c.f0 c.f1 c.f2 K hK c.f3.length (c.f3.length + K + 1) 0 (wrap64 (1 + (c.f3.length : Int))) (by omega) (by omega);exact ⟨c.f3.length + K + 2,r,by rw [althinglaw7_size.f];exact hr⟩
theorem Fits.more : ∀ {f : Nat} {c : S25},Fits f c → Fits (f + 1) c
 | 0,_,h=>h.elim
 | _ + 1,_,h=>⟨h.1,fun x hx=>(h.2 x hx).more⟩
theorem Fits.mono {f f' : Nat} (h : f ≤ f') {c : S25} (hc : Fits f c) : Fits f' c:=by
 induction h with
 | refl=>exact hc
 | step _ ih=>exact ih.more
theorem fits_list (l : List S25) (h : ∀ x ∈ l,∃ f,Fits f x) : ∃ f,∀ x ∈ l,Fits f x:=by
 induction l with
 | nil=>exact ⟨0,fun x hx=>by cases hx⟩
 | cons x l ih=>
   obtain ⟨f,hf⟩:=h x (by simp);obtain ⟨g,hg⟩:=ih (fun y hy=>h y (by simp [hy]));refine ⟨f + g,fun y hy=>?_⟩
   rcases List.mem_cons.1 hy with rfl | hy
   ·exact hf.mono (by omega)
   ·exact (hg y hy).mono (by omega)
theorem fits_kids (w : World) : ∀ (c : S25) (A : Option Addr),Kd.C k25 w A c.f3.length c.f3 → ∃ f,Fits f c:=by
 apply call_ind
 intro c ih A h
 obtain ⟨f,hf⟩:=fits_list c.f3 (fun x hx=>by
  obtain ⟨i,hi,rfl⟩:=List.mem_iff_getElem.1 hx;obtain ⟨ad,A3,c3,eA,h0,h1,h2,h3,hl3,hC3⟩:=at_T25 h (i : Int) (by omega) (by omega);rw [rd_T c.f3 i hi] at hC3
  exact ih _ (List.getElem_mem hi) A3 hC3)
 have:=C_short h;exact ⟨f + 1,by omega,hf⟩
/-! ### more room changes nothing -/
end Go.Proofs.Ytilckocpgififaa.PNum
/- Bytes as a call, plainly: what code.taken computes. -/
namespace Go.Proofs.Ytilckocpgififaa.G
open Go.RowKit Go.Shelf Go.Proofs.YtilckocpgififaaW.PrintWords Go.Proofs.YtilckocpgififaaW.PrintMore Go.Proofs.Ytilckocpgififaa.PNum
set_option linter.unusedVariables false
set_option linter.unusedSimpArgs false
def restT (l : List Int) : List Int:=l.drop (numT l).2.1
def valT (l : List Int) : Int:=(numT l).1
def okN (l : List Int) : Bool:=(numT l).2.2
theorem restT_bytes {l : List Int} (h : IsBytes l) : IsBytes (restT l):=h.drop _
def kidsA (dec : List Int → Option S25) : Nat → List Int → Bool → List S25 → Option (List S25 × List Int × Bool)
 | 0,l,ok,acc=>some (acc,l,ok)
 | n + 1,l,ok,acc=>match dec (rowT l).1 with
   | none=>none
   | some k=>kidsA dec n (l.drop (rowT l).2.1) (ok && (rowT l).2.2) (acc ++ [k])
def headOk (l : List Int) : Bool:=okN l && okN (restT l) && okN (restT (restT l)) && okN (restT (restT (restT l)))
def kidsN (l : List Int) : Int:=valT (restT (restT (restT l)))
def bodyT (l : List Int) : List Int:=restT (restT (restT (restT l)))
def takenF : Nat → List Int → Option S25
 | 0,_=>none
 | f + 1,l=>if headOk l = false ∨ kidsN l > 4 then none else
   match kidsA (takenF f) (kidsN l).toNat (bodyT l) true [] with
   | none=>none
   | some (ks,r,ok)=>if (ok && decide (r.length = 0)) = true then some ⟨valT l,valT (restT l),valT (restT (restT l)),ks⟩ else none
def zeroC : List Value:=[.int .i64 0,.int .i64 0,.int .i64 0,.slice none 0 0]
def placesC : List (Bool × Nat):=[(true,0),(true,1),(true,2),(false,0)]
theorem numsW_head (l : List Int) : numsW placesC l true zeroC [.int .i64 0] = (bodyT l,headOk l,[.int .i64 (valT l),.int .i64 (valT (restT l)),.int .i64 (valT (restT (restT l))),.slice none 0 0],[.int .i64 (kidsN l)]):=by
 simp [numsW,placesC,zeroC,bodyT,headOk,kidsN,restT,valT,okN]
end Go.Proofs.Ytilckocpgififaa.G
/- What was told as bytes is read as it was, plainly; what is read was told so. -/
namespace Go.Proofs.Ytilckocpgififaa.G
open Go.RowKit Go.Shelf Go.Proofs.YtilckocpgififaaW.PrintWords Go.Proofs.YtilckocpgififaaW.PrintMore Go.Proofs.Ytilckocpgififaa.PNum
set_option linter.unusedVariables false
set_option linter.unusedSimpArgs false
/-! ### a number, a row -/
def Small (n : Int) : Prop:=0 ≤ n ∧ n ≤ 4611686018427387904
theorem numT_put {n : Int} (h : Small n) (t : List Int) : numT (numB n ++ t) = (n,sizeN n,true):=by
 unfold numT;rw [takeN_put h.1 h.2 t]
theorem restT_put {n : Int} (h : Small n) (t : List Int) : restT (numB n ++ t) = t:=by
 unfold restT;rw [numT_put h,← numB_length n];exact List.drop_left' rfl
theorem valT_put {n : Int} (h : Small n) (t : List Int) : valT (numB n ++ t) = n:=by unfold valT;rw [numT_put h]
theorem okN_put {n : Int} (h : Small n) (t : List Int) : okN (numB n ++ t) = true:=by unfold okN;rw [numT_put h]
theorem numT_tells {l : List Int} (hl : IsBytes l) (h : okN l = true) : Small (valT l) ∧ l = numB (valT l) ++ restT l:=by
 unfold okN valT restT numT at *
 cases e : takeN l with
 | none=>rw [e] at h;cases h
 | some x=>
   obtain ⟨n,s⟩:=x;obtain ⟨h0,h1,h2,h3,h4⟩:=takeN_tells hl e;refine ⟨⟨h0,h1⟩,?_⟩
   dsimp only
   rw [← h4,List.take_append_drop]
theorem cutN_put (p t : List Int) (hp : p.length ≤ 4611686018427387904) : cutN (rowB p ++ t) = some (p,(rowB p).length):=by
 unfold cutN rowB
 rw [List.append_assoc,takeN_put (by omega) (by omega)]
 dsimp only
 rw [if_neg (by rw [List.length_append,numB_length,List.length_append];omega),Int.toNat_natCast,List.length_append,numB_length]
 congr 2
 rw [← List.append_assoc,List.take_left' (by rw [List.length_append,numB_length]),List.drop_left' (numB_length _)]
theorem rowT_put (p t : List Int) (hp : p.length ≤ 4611686018427387904) : rowT (rowB p ++ t) = (p,(rowB p).length,true):=by
 unfold rowT;rw [cutN_put p t hp]
theorem rowT_tells {l : List Int} (hl : IsBytes l) (h : (rowT l).2.2 = true) : l = rowB (rowT l).1 ++ l.drop (rowT l).2.1:=by
 unfold rowT at *
 cases e : cutN l with
 | none=>rw [e] at h;cases h
 | some x=>
   obtain ⟨p,s⟩:=x
   dsimp only
   unfold cutN at e
   cases eT : takeN l with
   | none=>rw [eT] at e;cases e
   | some y=>
     obtain ⟨n,s0⟩:=y;obtain ⟨h0,h1,h2,h3,h4⟩:=takeN_tells hl eT;rw [eT] at e
     dsimp only at e
     by_cases c : (l.length : Int) - s0 < n
     ·rw [if_pos c] at e;cases e
     rw [if_neg c] at e
     injection e with e
     injection e with e1 e2
     have hpl : p.length = n.toNat:=by rw [← e1,List.length_drop,List.length_take];omega
     have hn : ((p.length : Nat) : Int) = n:=by omega
     have e3 : l.take s = l.take s0 ++ p:=by
      rw [← e1,← e2];have:=List.take_append_drop s0 (l.take (s0 + n.toNat));rw [List.take_take,Nat.min_eq_left (by omega)] at this;exact this.symm
     unfold rowB
     rw [hn,← h4,← e3,List.take_append_drop]
/-! ### the kids -/
theorem kids_put (dec : List Int → Option S25) (enc : S25 → List Int) (l : List S25) (hl : ∀ x ∈ l,(enc x).length ≤ 4611686018427387904 ∧ dec (enc x) = some x) (t : List Int) :
 ∀ (acc : List S25),kidsA dec l.length (rowsB (l.map enc) ++ t) true acc = some (acc ++ l,t,true):=by
 induction l with
 | nil=>intro acc;simp [kidsA,rowsB]
 | cons x l ih=>
   intro acc;obtain ⟨h1,h2⟩:=hl x (by simp);rw [List.length_cons,kidsA,List.map_cons,rowsB_cons,List.append_assoc,rowT_put _ _ h1]
   dsimp only
   rw [h2]
   dsimp only
   rw [List.drop_left' rfl,Bool.and_true,ih (fun y hy=>hl y (by simp [hy]))]
   simp
theorem kids_false (dec : List Int → Option S25) : ∀ (n : Nat) (l : List Int) (acc ks : List S25) (r : List Int) (ok : Bool),kidsA dec n l false acc = some (ks,r,ok) → ok = false
 | 0,l,acc,ks,r,ok,h=>by simp only [kidsA,Option.some.injEq,Prod.mk.injEq] at h;exact h.2.2.symm
 | n + 1,l,acc,ks,r,ok,h=>by
   unfold kidsA at h
   cases e : dec (rowT l).1 with
   | none=>rw [e] at h;cases h
   | some k=>rw [e] at h;dsimp only at h;rw [Bool.false_and] at h;exact kids_false dec n _ _ _ _ _ h
theorem kids_tells (dec : List Int → Option S25) (enc : S25 → List Int) (hd : ∀ l x,IsBytes l → dec l = some x → l = enc x) :
 ∀ (n : Nat) (l : List Int) (acc ks : List S25) (r : List Int),IsBytes l → kidsA dec n l true acc = some (ks,r,true) → ∃ m,ks = acc ++ m ∧ m.length = n ∧ l = rowsB (m.map enc) ++ r
 | 0,l,acc,ks,r,hl,h=>by
   simp only [kidsA,Option.some.injEq,Prod.mk.injEq] at h;exact ⟨[],by rw [List.append_nil];exact h.1.symm,rfl,by rw [← h.2.1];rfl⟩
 | n + 1,l,acc,ks,r,hl,h=>by
   unfold kidsA at h
   cases e : dec (rowT l).1 with
   | none=>rw [e] at h;cases h
   | some k=>
     rw [e] at h
     dsimp only at h
     rw [Bool.true_and] at h
     cases e2 : (rowT l).2.2 with
     | false=>rw [e2] at h;exact absurd (kids_false dec _ _ _ _ _ _ h) (by decide)
     | true=>
       rw [e2] at h;obtain ⟨m,h1,h2,h3⟩:=kids_tells dec enc hd n _ _ _ _ (hl.drop _) h;refine ⟨k :: m,by rw [h1];simp,by simp [h2],?_⟩;have hk:=hd _ k (rowT_size hl).2.2 e;rw [List.map_cons,rowsB_cons,List.append_assoc,← h3,← hk];exact rowT_tells hl e2
/-! ### a call -/
theorem okT_small {f : Nat} {c : S25} (h : okT f c = true) : Small c.f0 ∧ Small c.f1 ∧ Small c.f2 ∧ c.f3.length ≤ 4:=by
 have leaf : leafOk c.f0 c.f1 c.f2 c.f3 = true → Small c.f0 ∧ Small c.f1 ∧ Small c.f2 ∧ c.f3.length ≤ 4:=by
  intro h
  unfold leafOk at h
  unfold Small
  split at h
  ·simp only [Bool.and_eq_true,decide_eq_true_eq] at h;omega
  ·split at h
   ·simp only [Bool.and_eq_true,decide_eq_true_eq] at h;omega
   ·split at h
    ·simp only [Bool.and_eq_true,decide_eq_true_eq] at h;omega
    ·cases h
 cases f with
 | zero=>unfold okT okC at h;exact leaf h
 | succ f=>
   unfold okT okC at h
   by_cases h5 : c.f0 = 5
   rotate_left
   ·rw [if_neg h5] at h;exact leaf h
   rw [if_pos h5] at h;simp only [Bool.and_eq_true,decide_eq_true_eq] at h
   unfold Small
   omega
theorem head_put {c : S25} (h0 : Small c.f0) (h1 : Small c.f1) (h2 : Small c.f2) (h3 : c.f3.length ≤ 4) (t : List Int) :
 headOk (numsB [c.f0,c.f1,c.f2,(c.f3.length : Int)] ++ t) = true ∧ kidsN (numsB [c.f0,c.f1,c.f2,(c.f3.length : Int)] ++ t) = (c.f3.length : Int) ∧ bodyT (numsB [c.f0,c.f1,c.f2,(c.f3.length : Int)] ++ t) = t ∧
 valT (numsB [c.f0,c.f1,c.f2,(c.f3.length : Int)] ++ t) = c.f0 ∧ valT (restT (numsB [c.f0,c.f1,c.f2,(c.f3.length : Int)] ++ t)) = c.f1 ∧ valT (restT (restT (numsB [c.f0,c.f1,c.f2,(c.f3.length : Int)] ++ t))) = c.f2:=by
 have hn : Small (c.f3.length : Int):=by unfold Small;omega
 have e : numsB [c.f0,c.f1,c.f2,(c.f3.length : Int)] ++ t = numB c.f0 ++ (numB c.f1 ++ (numB c.f2 ++ (numB (c.f3.length : Int) ++ t))):=by simp [numsB]
 rw [e]
 unfold headOk kidsN bodyT
 simp only [restT_put h0,restT_put h1,restT_put h2,restT_put hn,valT_put h0,valT_put h1,valT_put h2,valT_put hn,okN_put h0,okN_put h1,okN_put h2,okN_put hn,Bool.and_self,and_self]
theorem call_eta (c : S25) : (⟨c.f0,c.f1,c.f2,c.f3⟩ : S25) = c:=by cases c;rfl
theorem taken_put : ∀ (f : Nat) (c : S25),f ≤ 3 → okT f c = true → takenF (f + 1) (encC f c) = some c
 | 0,c,hf,h=>by
   obtain ⟨h0,h1,h2,h3⟩:=okT_small h;have hk:=okT_leaf h;obtain ⟨a1,a2,a3,a4,a5,a6⟩:=head_put h0 h1 h2 h3 [];rw [List.append_nil] at a1 a2 a3 a4 a5 a6;rw [hk] at a1 a2 a3 a4 a5 a6
   unfold encC takenF
   rw [hk,a1,a2,a3,if_neg (by simp)];rw [a4,a5,a6];simp only [List.length_nil,Int.toNat_natCast,kidsA];rw [if_pos (by simp),← hk,call_eta]
 | f + 1,c,hf,h=>by
   obtain ⟨h0,h1,h2,h3⟩:=okT_small h;obtain ⟨h4,hk⟩:=okT_kids h;obtain ⟨a1,a2,a3,a4,a5,a6⟩:=head_put h0 h1 h2 h3 (rowsB (c.f3.map (encC f)))
   unfold encC takenF
   have:=kids_put (takenF (f + 1)) (encC f) c.f3 (fun x hx=>⟨by have:=encC_most f x (hk x hx);have:=mostC_small (f:=f) (by omega);omega,taken_put f x (by omega) (hk x hx)⟩) [] [];rw [List.append_nil,List.nil_append] at this;rw [a1,a2,a3,a4,a5,a6,if_neg (by simp;omega),Int.toNat_natCast,this]
   dsimp only
   rw [if_pos (by simp),call_eta]
theorem taken_tells : ∀ (f : Nat) (l : List Int) (c : S25),IsBytes l → takenF (f + 1) l = some c → l = encC f c
 | f,l,c,hl,h=>by
   unfold takenF at h
   by_cases hb : headOk l = false ∨ kidsN l > 4
   ·rw [if_pos hb] at h;cases h
   rw [if_neg hb] at h
   have hh : headOk l = true:=by
    cases e : headOk l with
    | true=>rfl
    | false=>exact absurd (Or.inl e) hb
   unfold headOk at hh
   simp only [Bool.and_eq_true] at hh;obtain ⟨⟨⟨k0,k1⟩,k2⟩,k3⟩:=hh;have b1:=restT_bytes hl;have b2:=restT_bytes b1;have b3:=restT_bytes b2;have b4:=restT_bytes b3;obtain ⟨s0,e0⟩:=numT_tells hl k0;obtain ⟨s1,e1⟩:=numT_tells b1 k1;obtain ⟨s2,e2⟩:=numT_tells b2 k2;obtain ⟨s3,e3⟩:=numT_tells b3 k3
   cases hka : kidsA (takenF f) (kidsN l).toNat (bodyT l) true [] with
   | none=>rw [hka] at h;cases h
   | some x=>
     obtain ⟨ks,r,ok⟩:=x;rw [hka] at h
     dsimp only at h
     by_cases hr : (ok && decide (r.length = 0)) = true
     rotate_left
     ·rw [if_neg hr] at h;cases h
     rw [if_pos hr] at h
     injection h with h
     simp only [Bool.and_eq_true,decide_eq_true_eq] at hr;obtain ⟨rfl,hr⟩:=hr;have hr:=List.eq_nil_of_length_eq_zero hr;subst hr;subst h;have hn : (((kidsN l).toNat : Nat) : Int) = kidsN l:=Int.toNat_of_nonneg s3.1
     have tail : ∀ (enc : S25 → List Int),(∀ l x,IsBytes l → takenF f l = some x → l = enc x) → l = numsB [valT l,valT (restT l),valT (restT (restT l)),(ks.length : Int)] ++ rowsB (ks.map enc):=by
      intro enc hd;obtain ⟨m,h1,h2,h3⟩:=kids_tells (takenF f) enc hd _ _ _ _ _ b4 hka;rw [List.nil_append] at h1;subst h1;rw [List.append_nil] at h3;rw [h2,hn,← h3]
      conv=>lhs;rw [e0,e1,e2,e3]
      simp [numsB,kidsN]
     match f with
     | 0=>
       have h0:=tail (fun _=>[]) (fun l x _ h=>by cases h)
       have hks : ks = []:=by
        cases hN : (kidsN l).toNat with
        | zero=>rw [hN] at hka;simp only [kidsA,Option.some.injEq,Prod.mk.injEq] at hka;exact hka.1.symm
        | succ n=>rw [hN] at hka;simp [kidsA,takenF] at hka
       subst hks
       unfold encC
       rw [List.map_nil] at h0
       simpa [rowsB] using h0
     | f + 1=>
       unfold encC
       exact tail (encC f) (fun l x hl hx=>taken_tells f l x hl hx)
end Go.Proofs.Ytilckocpgififaa.G
/- (*code.reader).nums: numbers are taken into places (laid by mkread.py). -/
namespace Go.Proofs.Ytilckocpgififaa.G
open Go.RowKit Go.Shelf Go.Proofs.YtilckocpgififaaW.PrintWords Go.Proofs.YtilckocpgififaaW.PrintLast Go.Proofs.YtilckocpgififaaW.PrintMore Go.Proofs.Ytilckocpgififaa.PNum
set_option linter.unusedVariables false
set_option linter.unusedSimpArgs false
def bad3 (R g1 g2 : Nat) (k : Nat) : Prop:=k = R ∨ k = g1 ∨ k = g2
def nums_r5.T : Bool × List (List Nat × List Nat):=(true,[([],[]),([],[]),([],[]),([],[]),([3],[3]),([4],[4]),([5],[5]),([],[]),([6,7],[6,7]),([0,0,2,6],[0]),([9,2,0,2,6],[2,9]),([1,0,1,2,3,4,5,6,7,8,9,10],[1]),([11,0,1,2,3,4,5,6,7,8,9,10],[11]),([12,8,10,0,1,2,3,4,5,6,7,8,9,10],[8,12])])
def nums_r5.B : List Nat:=[0,0,0,0,8,24,56,0,248,125,637,2047,4095,8191]
theorem nums_r5.tab : rtab .any (opsOf Try.f43 5) = nums_r5.T:=by kernel_rfl
theorem nums_r5.bits : waitsOk nums_r5.T.2 nums_r5.B = true:=by kernel_rfl
def nums_r5.l0 : Array Bool:=bl 14 1
def nums_r5.l1 : Array Bool:=bl 14 3
def nums_r5.l2 : Array Bool:=bl 14 7
def nums_r5.l3 : Array Bool:=bl 14 15
def nums_r5.l4 : Array Bool:=bl 14 31
def nums_r5.l5 : Array Bool:=bl 14 63
def nums_r5.l6 : Array Bool:=bl 14 127
def nums_r5.l7 : Array Bool:=bl 14 255
def nums_r5.l8 : Array Bool:=bl 14 511
def nums_r5.l9 : Array Bool:=bl 14 1023
def nums_r5.l10 : Array Bool:=bl 14 2047
def nums_r5.l11 : Array Bool:=bl 14 4095
def nums_r5.l12 : Array Bool:=bl 14 8191
def nums_r5.l13 : Array Bool:=bl 14 16383
set_option maxRecDepth 100000 in
set_option maxHeartbeats 16000000 in
theorem nums_calls (B R g1 g2 gp cp : Nat) (ps : List (Bool × Nat)) (A : Option Addr) (c : Nat) (l : List Int) (ok : Bool) (L1 L2 : List Value) (w : World) (hR : ReadAt B w R g1 g2 A c l ok L1 L2)
 (hps : ∀ i (h : i < ps.length),(ps[i]).2 < (if (ps[i]).1 = true then L1 else L2).length) (hp : ∀ i (h : i < ps.length),w.cell? ⟨gp,i,none⟩ = some (.pointer (some ⟨if (ps[i]).1 = true then g1 else g2,(ps[i]).2,none⟩)))
 (hgp : gp < w.heap.size ∧ gp ≠ R ∧ gp ≠ g1 ∧ gp ≠ g2) (hn : ps.length ≤ 1000) :
 Calls Try.prog 43 #[.pointer (some ⟨R,0,none⟩),.slice (some ⟨gp,0,none⟩) ps.length cp] w fun e w'=>e = .returned (.tuple #[]) ∧
  (∃ A' c',ReadAt B w' R g1 g2 A' c' (numsW ps l ok L1 L2).1 (numsW ps l ok L1 L2).2.1 (numsW ps l ok L1 L2).2.2.1 (numsW ps l ok L1 L2).2.2.2) ∧ Kept (bad3 R g1 g2) w w':=by
 have HR:=am hR;have HPS:=am hps;have HP:=am hp;have HGP:=am hgp;have HN:=am hn;clear hR hps hp hgp hn;go_enter Try.func43,Try.ntmps43
 go_wp2
 go_loopw [11] (fun i wr=>∃ x : Int,i = .int .i64 x ∧ (0 ≤ x ∧ x ≤ (ps.length : Int)) ∧
  Aside0 (∃ A' c' l' ok' L1' L2',ReadAt B wr R g1 g2 A' c' l' ok' L1' L2' ∧ L1'.length = L1.length ∧ L2'.length = L2.length ∧ numsW (ps.drop x.toNat) l' ok' L1' L2' = numsW ps l ok L1 L2) ∧ Aside0 (Kept (bad3 R g1 g2) w wr))
  (fun i _=>ps.length - (intOf i).toNat)
 case atStart=>exact ⟨0,rfl,⟨by omega,by omega⟩,⟨A,c,l,ok,L1,L2,HR.out,rfl,rfl,rfl⟩,⟨Kept.refl _ _⟩⟩
 case round=>
 obtain ⟨x,rfl,⟨hx0,hx1⟩,HV,HG⟩:=hrel;obtain ⟨A',c',l',ok',L1',L2',hRA,hl1,hl2,hE⟩:=HV.out;have hnn:=HN.out
 by_cases hlt : x < (ps.length : Int)
 rotate_left
 ·have d0 : decide (x < (ps.length : Int)) = false:=decide_eq_false hlt
  have hx9 : x = (ps.length : Int):=by omega
  subst hx9;rw [Int.toNat_natCast,List.drop_length] at hE;have HRA:=am hRA;have HE:=am hE;clear hRA hl1 hl2 hE HV
  go_wp2
  refine bodyPost_end (v:= .tuple #[]) (results_none rfl _ _ _) rfl ?_;exact ⟨rfl,⟨A',c',by rw [← HE.out];exact HRA.out⟩,HG.out⟩
 have d0 : decide (x < (ps.length : Int)) = true:=decide_eq_true hlt
 have xw : wrap64 (x + 1) = x + 1:=by unfold wrap64;omega
 have hxl : x.toNat < ps.length:=by omega
 obtain ⟨b,o,hbo⟩ : ∃ b o,ps[x.toNat] = (b,o):=⟨_,_,rfl⟩
 have key : ∃ (G H : Nat) (LG LH : List Value),ReadAt B wr R G H A' c' l' ok' LG LH ∧ o < LG.length ∧ bad3 R g1 g2 G ∧ wr.cell? ⟨gp,x.toNat,none⟩ = some (.pointer (some ⟨G,o,none⟩)) ∧
  (∀ (W : World) A2 c2 l2 ok2 v,ReadAt B W R G H A2 c2 l2 ok2 (LG.set o v) LH → ReadAt B W R g1 g2 A2 c2 l2 ok2 (if b = true then L1'.set o v else L1') (if b = true then L2' else L2'.set o v)):=by
  have hc:=HP.out x.toNat hxl;have ho:=HPS.out x.toNat hxl;rw [hbo] at hc ho;have hcell : wr.cell? ⟨gp,x.toNat,none⟩ = w.cell? ⟨gp,x.toNat,none⟩:=World.cell?_of_block (a:=⟨gp,x.toNat,none⟩) (HG.out.block gp HGP.out.1 (fun q=>q.elim HGP.out.2.1 (fun q=>q.elim HGP.out.2.2.1 HGP.out.2.2.2)))
  cases b with
  | true=>exact ⟨g1,g2,L1',L2',hRA,by rw [hl1];exact ho,.inr (.inl rfl),hcell.trans hc,fun W A2 c2 l2 ok2 v h=>h⟩
  | false=>exact ⟨g2,g1,L2',L1',hRA.swap,by rw [hl2];exact ho,.inr (.inr rfl),hcell.trans hc,fun W A2 c2 l2 ok2 v h=>h.swap⟩
 obtain ⟨G,H,LG,LH,hRG,hoG,hbG,hpc,hback⟩:=key;obtain ⟨v,hv⟩ : ∃ v,(numT l').1 = v:=⟨_,rfl⟩;obtain ⟨s,hs⟩ : ∃ s,(numT l').2.1 = s:=⟨_,rfl⟩;obtain ⟨k',hk'⟩ : ∃ k',(numT l').2.2 = k':=⟨_,rfl⟩
 have hsl : s ≤ l'.length:=by rw [← hs];exact numT_size hRG.bytes
 have htk:=ctake_tells 40 l' hRG.bytes (by decide);rw [numT_out,hv,hs,hk'] at htk
 have hnext : numsW (ps.drop (x + 1).toNat) (l'.drop s) (ok' && k') (if b = true then L1'.set o (.int .i64 v) else L1') (if b = true then L2' else L2'.set o (.int .i64 v)) = numsW ps l ok L1 L2:=by
  rw [← hE,List.drop_eq_getElem_cons hxl,hbo,numsW,hv,hs,hk',show (x + 1).toNat = x.toNat + 1 by omega]
 obtain ⟨i8,hi8,_,hsz8,_⟩:=info_parts info5;obtain ⟨A2,hcut,hCr,hcc,hAA⟩:=cut_tail (P:=Try.prog) 38 5 Try.underlying38 hi8 hsz8 A' c' l' s hsl hRG.cap;have HTK:=am htk;have HRG:=am hRG;have HO:=am hoG;have BG:=am hbG;have HBK:=am hback;have HNX:=am hnext;have HCR:=am hCr;have HCC:=am hcc;have HAA:=am hAA;have HL1:=am hl1;have HL2:=am hl2;have r0:=hRG.reader.cell (i:=0) (v:= .slice A' l'.length c') rfl;clear htk hRG hoG hbG hback hnext hCr hcc hAA hl1 hl2 hE HV hRA hbo hv hs hk' hi8 hsz8 hsl;obtain ⟨kk,hkk⟩ : ∃ kk,kk = (ok' && k'):=⟨_,rfl⟩;have HKK:=am hkk;clear hkk;cases ok'
 all_goals (
  go_upto_region 4 with (go_at_call 61;with_reducible refine (compact_Take.calls 40 A' c' l' v (s : Int) k' _ HRG.out.row HRG.out.cap HTK.out).mono ?_;rintro e w1 ⟨rfl,hb_⟩;have HR1:=am (HRG.out.below hb_);have HK1:=am (HG.out.below hb_);clear hb_)
  clear r0;have q1:=HR1.out.reader.cell (i:=1) (v:= .bool _) rfl;have q2:=HR1.out.reader.frozen 1 (by simp)
  go_upto_region 5 with (fail)
  have n0_:=HR1.out.setOk kk;have k0_:=HK1.out.set (.inl rfl) 1 (.bool kk);rw [HKK.out] at n0_ k0_;clear q1 q2;simp only [Bool.true_and,Bool.false_and] at n0_ k0_;generalize World.setCell _ _ _ = w2 at n0_ k0_ ⊢;have r0:=n0_.drew.reader.cell (i:=0) (v:= .slice A' l'.length c') rfl;have HQ0:=am n0_.drew;have HKQ0:=am k0_.drew;clear n0_ k0_;obtain ⟨uG,huG⟩ : ∃ u,LG[o]? = some u:=⟨_,List.getElem?_eq_getElem HO.out⟩;have cG:=HQ0.out.one.cell huG;have fG:=HQ0.out.one.frozen o HO.out;clear huG;refine start_ (n:=14) (S:=fun w'=>w'.cell? ⟨R,0,none⟩ = some (.slice A' l'.length c')) (ds:=[13]) (bl 14 0) (by kernel_rfl) rfl rfl r0 (fun hHeld=>?_);refine with_tabW nums_r5.tab nums_r5.bits (fun HT_ HW_=>?_);clear hHeld;have hHeld:=r0;refine p_ HT_ 0 (some 34) nums_r5.l0 ?_;refine p_ HT_ 1 (some 35) nums_r5.l1 ?_;refine p_ HT_ 2 (some 36) nums_r5.l2 ?_;refine p_ HT_ 3 (some 37) nums_r5.l3 ?_;refine p_ HT_ 4 (some 38) nums_r5.l4 ?_;refine p_ HT_ 5 (some 39) nums_r5.l5 ?_;refine tk HT_ HW_ hHeld 6 (some 40) nums_r5.l6 (hr:=by intro w' hs_;have s0:=hs_;go_simp;with_reducible rfl) (h:=?_);refine p_ HT_ 7 (some 41) nums_r5.l7 ?_;refine p_ HT_ 8 (some 42) nums_r5.l8 ?_;refine p_ HT_ 9 (some 43) nums_r5.l9 ?_;refine o_ HT_ 10 none nums_r5.l10 fun K hK=>?_;refine skip_ (w1:=w2.drew.setCell ⟨G,o,none⟩ (.int .i64 v)) (by rfl) rfl ?_ ?_
  ·go_simp
  have n0_:=HQ0.out.setOne o HO.out (.int .i64 v);have k0_:=HKQ0.out.set BG.out o (.int .i64 v);have hHeld:=n0_.reader.cell (i:=0) (v:= .slice A' l'.length c') rfl;refine hK.out _ _ hHeld (fun hHeld=>?_);clear hK K;generalize World.setCell _ _ _ = wz at n0_ k0_ hHeld ⊢;have HZ:=am n0_;have HKZ:=am k0_;have fz:=n0_.reader.frozen 0 (by simp);clear n0_ k0_ cG fG;refine p_ HT_ 11 (some 44) nums_r5.l11 ?_;refine p_ HT_ 12 (some 45) nums_r5.l12 ?_;refine last_ (i:=13) (N:=none) nums_r5.l13 rfl rfl (one_of HT_.out (by kernel_rfl)) (by decide) (fun K hK=>?_);refine skip_ (w1:=wz.setCell ⟨R,0,none⟩ (.slice A2 (l'.length - s) (c' - s))) (by rfl) rfl ?_ ?_
  ·go_simp
  refine hK.out _ _ ?_;clear hK K;refine done_ (done_of HT_.out (by kernel_rfl)) ?_;clear HT_ HW_
  have n0_:=HZ.out.setRest (A':=A2) (c':=c' - s) (l':=l'.drop s) (by rw [List.length_drop];exact HCC.out) (HCR.out _ _ HZ.out.row) (HZ.out.bytes.drop s) (by rw [List.length_drop];have:=HZ.out.short;omega) (fun ad' e hn=>by
   obtain ⟨ad,e1,e2⟩:=HAA.out ad' e
   rw [e2];exact HZ.out.far ad e1 (by rw [List.length_drop] at hn;omega))
  have k0_:=HKZ.out.set (g:=R) (.inl rfl) 0 (.slice A2 (l'.length - s) (c' - s));rw [List.length_drop] at n0_;clear hHeld fz;generalize World.setCell _ _ _ = w5 at n0_ k0_ ⊢;have HF:=am (HBK.out _ _ _ _ _ _ n0_);have HKF:=am k0_;clear n0_ k0_
  go_wp2
  refine ⟨⟨x + 1,by first | rfl | (rw [xw]) | (simp [xw]),⟨by omega,by omega⟩,⟨_,_,_,_,_,_,HF.out,?_,?_,?_⟩,HKF⟩,by simp [intOf];omega⟩
  ·split <;> first | (rw [List.length_set];exact HL1.out) | exact HL1.out
  ·split <;> first | (rw [List.length_set];exact HL2.out) | exact HL2.out
  ·exact HNX.out)
set_option maxRecDepth 100000 in
set_option maxHeartbeats 16000000 in
theorem row_calls (B R g1 g2 : Nat) (A : Option Addr) (c : Nat) (l : List Int) (ok : Bool) (L1 L2 : List Value) (w : World) (hR : ReadAt B w R g1 g2 A c l ok L1 L2) :
 Calls Try.prog 45 #[.pointer (some ⟨R,0,none⟩)] w fun e w'=>
  (∃ A1 c1,e = .returned (.slice A1 (rowT l).1.length c1) ∧ (rowT l).1.length ≤ c1 ∧ Kd.C (Kd.int .u8) w' A1 (rowT l).1.length (rowT l).1 ∧ (∀ ad,A1 = some ad → 0 < (rowT l).1.length → w.heap.size ≤ ad.block)) ∧
  (∃ A' c',ReadAt B w' R g1 g2 A' c' (l.drop (rowT l).2.1) (ok && (rowT l).2.2) L1 L2) ∧ Kept (fun k=>k = R) w w':=by
 have hsz:=rowT_size hR.bytes;have hct:=cut_tells 40 l hR.bytes hR.short (by decide);rw [rowT_out] at hct;obtain ⟨p,hp⟩ : ∃ p,(rowT l).1 = p:=⟨_,rfl⟩;obtain ⟨s,hs⟩ : ∃ s,(rowT l).2.1 = s:=⟨_,rfl⟩;obtain ⟨k',hk'⟩ : ∃ k',(rowT l).2.2 = k':=⟨_,rfl⟩;rw [hp,hs,hk'] at hct;rw [hs] at hsz;rw [hp,hs,hk'];obtain ⟨i8,hi8,_,hsz8,_⟩:=info_parts info5;obtain ⟨A2,hcut,hCr,hcc,hAA⟩:=cut_tail (P:=Try.prog) 38 5 Try.underlying38 hi8 hsz8 A c l s hsz.1 hR.cap;have HCT:=am hct;have HR:=am hR;have HCR:=am hCr;have HCC:=am hcc;have HAA:=am hAA;have r0:=hR.reader.cell (i:=0) (v:= .slice A l.length c) rfl;clear hct hR hCr hcc hAA hp hs hk' hi8 hsz8 hsz;obtain ⟨kk,hkk⟩ : ∃ kk,kk = (ok && k'):=⟨_,rfl⟩;have HKK:=am hkk;rw [← hkk];clear hkk;cases ok
 all_goals (
  go_enter Try.func45,Try.ntmps45
  go_upto_region 2 with (go_at_call 62;go_loud (with_reducible refine (compact_Cut.calls 40 A c l p (s : Int) k' _ HR.out.row HR.out.cap HCT.out).mono ?_;rintro e w1 ⟨v0,rfl,hr_,hb_⟩;obtain ⟨A1,c1,hv_,hc1_,hC1_⟩:=Kd.R_reads hr_;have hfb_ : ∀ ad,A1 = some ad → 0 < p.length → w.heap.size ≤ ad.block:=fun ad e _=>Kd.R_base hr_ ad.block (by rw [hv_,e];simp [Value.ownBlock]);subst hv_;have HFB:=am hfb_;have HC1:=am hc1_;have HCP:=am hC1_;have HR1:=am (HR.out.below hb_);have HK1:=am ((Kept.refl (fun k=>k = R) w).below hb_);clear hr_ hb_ hc1_ hC1_ hfb_))
  clear r0;have q1:=HR1.out.reader.cell (i:=1) (v:= .bool _) rfl;have q2:=HR1.out.reader.frozen 1 (by simp)
  go_upto_region 3 with (fail)
  have n0_:=HR1.out.setOk kk;have k0_:=HK1.out.set (g:=R) rfl 1 (.bool kk);have c0_ : Kd.C (Kd.int .u8) (w1.setCell ⟨R,1,none⟩ (.bool kk)) A1 p.length p:=C_stays HCP.out (fun ad e hn=>Below.heap_setCell w1 ⟨R,1,none⟩ _ _ (fun q=>by have:=HFB.out ad e hn;have:=HR.out.reader.lt (by simp);have q' : ad.block = R:=q;omega));rw [HKK.out] at n0_ k0_ c0_;clear q1 q2;simp only [Bool.true_and,Bool.false_and] at n0_ k0_ c0_;generalize World.setCell _ _ _ = w2 at n0_ k0_ c0_ ⊢;have r0:=n0_.reader.cell (i:=0) (v:= .slice A l.length c) rfl;have f0:=n0_.reader.frozen 0 (by simp)
  have n1_:=n0_.setRest (A':=A2) (c':=c - s) (l':=l.drop s) (by rw [List.length_drop];exact HCC.out) (HCR.out _ _ n0_.row) (n0_.bytes.drop s) (by rw [List.length_drop];have:=n0_.short;omega) (fun ad' e hn=>by
   obtain ⟨ad,e1,e2⟩:=HAA.out ad' e
   rw [e2];exact n0_.far ad e1 (by rw [List.length_drop] at hn;omega))
  have k1_:=k0_.set (g:=R) rfl 0 (.slice A2 (l.length - s) (c - s));have c1_ : Kd.C (Kd.int .u8) (w2.setCell ⟨R,0,none⟩ (.slice A2 (l.length - s) (c - s))) A1 p.length p:=C_stays c0_ (fun ad e hn=>Below.heap_setCell w2 ⟨R,0,none⟩ _ _ (fun q=>by have:=HFB.out ad e hn;have:=HR.out.reader.lt (by simp);have q' : ad.block = R:=q;omega));rw [List.length_drop] at n1_;have N1:=am n1_;have K1:=am k1_;have C1:=am c1_;clear n0_ k0_ c0_ n1_ k1_ c1_
  go_wp2
  go_ret
  exact ⟨⟨A1,c1,rfl,HC1.out,C1.out,HFB.out⟩,⟨A2,c - s,by rw [HKK.out];exact N1.out⟩,K1.out⟩)
theorem whole_calls (B R g1 g2 : Nat) (A : Option Addr) (c : Nat) (l : List Int) (ok : Bool) (L1 L2 : List Value) (w : World) (hR : ReadAt B w R g1 g2 A c l ok L1 L2) :
 Calls Try.prog 46 #[.pointer (some ⟨R,0,none⟩)] w fun e w'=>e = .returned (.bool (ok && decide (l.length = 0))) ∧ w' = w:=by
 have r0:=hR.reader.cell (i:=0) (v:= .slice A l.length c) rfl;have r1:=hR.reader.cell (i:=1) (v:= .bool ok) rfl;clear hR
 by_cases h0 : l.length = 0
 ·have d0 : decide (l.length = 0) = true:=decide_eq_true h0;have d1 : decide ((l.length : Int) = 0) = true:=decide_eq_true (by omega);have d2 : ((l.length : Int) == 0) = true:=beq_iff_eq.2 (by omega);rw [d0];clear h0 d0;cases ok
  all_goals (
   go_enter Try.func46,Try.ntmps46
   go_wp2
   go_ret
   exact ⟨by simp,rfl⟩)
 have d0 : decide (l.length = 0) = false:=decide_eq_false h0;have d1 : decide ((l.length : Int) = 0) = false:=decide_eq_false (by omega);have d2 : ((l.length : Int) == 0) = false:=beq_eq_false_iff_ne.2 (by omega);rw [d0];clear h0 d0;cases ok
 all_goals (
  go_enter Try.func46,Try.ntmps46
  go_wp2
  go_ret
  exact ⟨by simp,rfl⟩)
end Go.Proofs.Ytilckocpgififaa.G
/- What the walk of code.taken needs: two results, a row of calls that grows by one, what taken is to show. -/
namespace Go.Proofs.Ytilckocpgififaa.G
open Go.RowKit Go.Shelf Go.Proofs.YtilckocpgififaaW.PrintWords Go.Proofs.YtilckocpgififaaW.PrintLast Go.Proofs.YtilckocpgififaaW.PrintMore Go.Proofs.Ytilckocpgififaa.PNum
set_option linter.unusedVariables false
set_option linter.unusedSimpArgs false
theorem results_cell_tmp {P : Program} {fn : Func} {t u : Tmp} {ty : TypeId} (h : fn.results = #[.cell t ty,.tmp u]) (tmps : Array Value) {w : World} {g : Nat} {v : Value} (hp : tmps.getD t undef = .pointer (some ⟨g,0,none⟩)) (hv : (loadVar ty ⟨g,0,none⟩).run P w = .ok v w) :
 (results fn tmps).run P w = .ok (.tuple #[v,tmps.getD u undef]) w:=by
 have hp' : tmps[t]?.getD undef = .pointer (some ⟨g,0,none⟩):=by rw [← hp];simp
 simp [results,h,hp',asAddr,hv]
theorem R_shape {α : Type} {d : Kd α} {e : Nat} {w : World} {base : Nat} {ok : Nat → Prop} {v : Value} {xs : List α} (h : d.R e w base ok v xs) (hn : 0 < xs.length) (hs : 0 < d.sz) : ∃ g cap,v = .slice (some ⟨g,0,none⟩) xs.length cap ∧ xs.length ≤ cap:=by
 obtain ⟨A,c,hv,hc,hC⟩:=Kd.R_reads h;obtain ⟨_,inner,ho,hr⟩:=h
 rcases ho.2 with ⟨h2,_⟩ | ⟨g,cap,cur,h2,_⟩
 ·obtain ⟨ad,e1,_⟩:=hC.2.2 hn;rw [hv,e1] at h2;cases h2
 ·refine ⟨g,cap,h2,?_⟩;rw [hv] at h2
  injection h2 with _ _ h3
  omega
theorem put_last {w : World} {base bv cap : Nat} {ok okp : Nat → Prop} {ks : List S25} {z x : S25} {L : List Value} (h : k25.R 25 w base ok (.slice (some ⟨bv,0,none⟩) (ks.length + 1) cap) (ks ++ [z]))
 (hM : k25.M w base okp x L) (hokp : ∀ k,okp k → ok k ∧ k ≠ bv) :
 w.there bv (ks.length * 4) 4 ∧ k25.R 25 (w.setCells bv (ks.length * 4) L) base ok (.slice (some ⟨bv,0,none⟩) (ks.length + 1) cap) (ks ++ [x]) ∧ w.grownBy (w.setCells bv (ks.length * 4) L) (some bv):=by
 have hL : L.length = 4:=k25.K_len (k25.K_of_M hM);obtain ⟨c,hcl,_,hcc,hfr⟩:=Kd.R_elem h z (ks.length : Int) (by omega) (by omega);have hcl4 : c.length = 4:=hcl;rw [Int.toNat_natCast] at hcc hfr;have hcc4 : ∀ j u,c[j]? = some u → w.cell? ⟨bv,ks.length * 4 + j,none⟩ = some u:=hcc;have hfr4 : ∀ j,w.frozen? ⟨bv,ks.length * 4 + j,none⟩ = false:=hfr
 obtain ⟨h1,h2⟩:=Kd.R_seg h (ks.length : Int) (by omega) (by omega) (c:=c) (seg:=L) (j:=0) hcl (by rw [Int.toNat_natCast];exact hcc) (by rw [hL];exact Nat.le_refl _) (x':=x) (okp:=okp) (by
  rw [List.take_zero,List.nil_append,List.drop_of_length_le (by omega),List.append_nil];exact hM) hokp
 rw [Int.toNat_natCast] at h1 h2;refine ⟨fun j hj=>⟨?_,hfr4 j⟩,?_,h2⟩
 ·rw [hcc4 j c[j] (List.getElem?_eq_getElem (by omega))];rfl
 ·have e : (ks ++ [z]).set ks.length x = ks ++ [x]:=by rw [List.set_append_right _ _ (Nat.le_refl _),Nat.sub_self];rfl
  rw [e] at h1;exact h1
theorem zero_M (w : World) (base : Nat) (ok : Nat → Prop) : k25.M w base ok z25 zeroC:=k25_mkM w base ok z25 (Kd.R_nil _ _ _ _ _)
theorem zero_call : (Try.prog.info? 25).map (fun i=>(i.zero,i.size)) = some (some (.agg zeroC.toArray),4):=by kernel_rfl
theorem info_call : (Try.prog.info? 25).map (·.size) = some 4:=by kernel_rfl
theorem info_callz : (Try.prog.info? 25).map (fun i=>(i.zero,i.size,i.bytes)) = some (some (.agg zeroC.toArray),4,48):=by kernel_rfl
theorem built_call : Try.prog.built 25 [] = some zeroC.toArray:=by kernel_rfl
theorem zero_runC (w : World) : (zeroValue 25).run Try.prog w = .ok (.agg zeroC.toArray) w:=by
 have h:=zero_call
 cases hi : Try.prog.info? 25 with
 | none=>rw [hi] at h;cases h
 | some i=>rw [hi] at h;simp at h;simp [zeroValue,typeInfo,hi,h.1,go_sem]
theorem load_runO' {P : Program} {o : Oper} {a : Act} {w : World} {ty : TypeId} {y : Operand} {g off : Nat} {L : List Value} {d : TypeDesc} (ho : o.op = .load ty y) (hx : a.eval y = .pointer (some ⟨g,off,none⟩)) (h : w.rangeAt g off L) (hu : P.underlying ty = some d) (hd : d.isRow = true) (hi : (P.info? ty).map (·.size) = some L.length) :
 (execOp a.eval o).run P w = .ok (.value (.agg L.toArray)) w:=by
 unfold execOp
 simp only [ho,hx,Instr.loadAt,Instr.sureAddr,Sem.run_bind,Sem.run_pure,Result.andThen_ok,run_loadVar_mid w g off ty L d h hu hd hi]
theorem store_runO' {P : Program} {o : Oper} {a : Act} {w : World} {ty : TypeId} {x y : Operand} {g off : Nat} {L : List Value} (ho : o.op = .store ty x y) (hx : a.eval x = .pointer (some ⟨g,off,none⟩)) (hy : a.eval y = .agg L.toArray)
 (ht : w.there g off L.length) (hi : (P.info? ty).map (·.size) = some L.length) (h1 : ∀ v ∈ L,v.oneCell' = true) :
 (execOp a.eval o).run P w = .ok .skip (w.setCells g off L):=by
 unfold execOp
 simp only [ho,hx,hy,Instr.storeAt,Instr.sureAddr,Sem.run_bind,Sem.run_pure,Result.andThen_ok,run_storeVar_mid w g off ty L.toArray (by rw [List.size_toArray];exact ht) (by rw [List.size_toArray];exact hi) (all_oneCell_toArray h1)]
def TakenAt (f : Nat) (d : Int) : Prop:=∀ (A : Option Addr) (c : Nat) (l : List Int) (w : World),Kd.C (Kd.int .u8) w A l.length l → l.length ≤ c → IsBytes l → l.length < 140737488355328 →
 Calls Try.prog 52 #[.slice A l.length c,.int .i64 d] w fun e w'=>
  (∃ L : List Value,e = .returned (.tuple #[.agg L.toArray,.bool (takenF f l).isSome]) ∧ L.length = 4 ∧ (∀ v ∈ L,v.oneCell' = true) ∧ ∀ x,takenF f l = some x → k25.M w' w.heap.size (fun _=>True) x L) ∧ Below w.heap.size w w'
theorem below_setCells' {B : Nat} {w0 : World} (g : Nat) (hg : B ≤ g) : ∀ (L : List Value) (o : Nat) (w : World),Below B w0 w → Below B w0 (w.setCells g o L)
 | [],_,_,h=>h
 | v :: L,o,w,h=>below_setCells' g hg L (o + 1) _ (h.setCell (p:=⟨g,o,none⟩) hg v)
theorem kept_setCells (g o : Nat) (L : List Value) (w : World) : Kept (fun k=>k = g) w (w.setCells g o L):=by
 obtain ⟨h1,h2,h3,h4⟩:=setCells_same g L o w;exact ⟨h1,h2,h3,by rw [h4];exact Nat.le_refl _,fun k _ hk=>Go.Proofs.YtilckocpgififaaW.PrintWords.setCells_far L o k hk⟩
theorem Kept.of_below {bad : Nat → Prop} {w w' : World} (h : Below w.heap.size w w') : Kept bad w w':=(Kept.refl bad w).below h
theorem Kept.of_grown {w w' : World} {r : Option Nat} (h : w.grownBy w' r) : Kept (fun k=>some k = r) w w':=⟨h.os,h.tape,h.output,h.size,fun k hk hne=>h.block k hk hne⟩
theorem grow_kids {B R gc gn g4 bv cap : Nat} {w W w11 : World} {A2 : Option Addr} {c2 : Nat} {l2 : List Int} {ok2 : Bool} {a b c3 : Int} {v0 : Value} {L2 Z LK : List Value} {okq okK : Nat → Prop} {ks : List S25} {kx : S25}
 (hR : ReadAt B W R gc gn A2 c2 l2 ok2 [.int .i64 a,.int .i64 b,.int .i64 c3,v0] L2) (h4 : Lies W g4 Z) (hZ : 0 < Z.length) (hn4 : g4 ≠ R ∧ g4 ≠ gc ∧ g4 ≠ gn)
 (hokq : ∀ k,okq k → k ≠ R ∧ k ≠ gc ∧ k ≠ gn ∧ k ≠ g4) (hk : k25.M W B okK kx LK) (hokK : ∀ k,okK k → okq k ∧ k < W.heap.size ∧ some k ≠ v0.ownBlock) (hv0 : ∀ k,v0.ownBlock = some k → okq k ∧ B ≤ k)
 (hRA : k25.R 25 w11 B okq (.slice (some ⟨bv,0,none⟩) (ks.length + 1) cap) (ks ++ [z25])) (hB : Below B w w11) (hBW : B ≤ W.heap.size) (hg : W.grownBy w11 v0.ownBlock)
 (hat : (Value.slice (some ⟨bv,0,none⟩) (ks.length + 1) cap).ownBlock = v0.ownBlock ∨ ∃ q,(Value.slice (some ⟨bv,0,none⟩) (ks.length + 1) cap).ownBlock = some q ∧ W.heap.size ≤ q) :
 w11.there bv (ks.length * 4) 4 ∧ w11.frozen? ⟨gc,3,none⟩ = false ∧
 ((w11.setCells bv (ks.length * 4) LK).cell? ⟨gc,3,none⟩ = some v0 ∧ (w11.setCells bv (ks.length * 4) LK).frozen? ⟨gc,3,none⟩ = false) ∧
 (w11.setCell ⟨gc,3,none⟩ (.slice (some ⟨bv,0,none⟩) (ks.length + 1) cap)).there bv (ks.length * 4) 4 ∧
 ∀ wz,(wz = (w11.setCells bv (ks.length * 4) LK).setCell ⟨gc,3,none⟩ (.slice (some ⟨bv,0,none⟩) (ks.length + 1) cap) ∨ wz = (w11.setCell ⟨gc,3,none⟩ (.slice (some ⟨bv,0,none⟩) (ks.length + 1) cap)).setCells bv (ks.length * 4) LK) →
   ReadAt B wz R gc gn A2 c2 l2 ok2 [.int .i64 a,.int .i64 b,.int .i64 c3,.slice (some ⟨bv,0,none⟩) (ks.length + 1) cap] L2 ∧ Lies wz g4 Z ∧ k25.R 25 wz B okq (.slice (some ⟨bv,0,none⟩) (ks.length + 1) cap) (ks ++ [kx]) ∧ Below B w wz:=by
 have hown : (Value.slice (some ⟨bv,0,none⟩) (ks.length + 1) cap).ownBlock = some bv:=rfl;rw [hown] at hat;have hbq : okq bv:=hRA.1 bv hown;have hbB : B ≤ bv:=Kd.R_base hRA bv hown;obtain ⟨nR,nc,nn,n4⟩:=hokq bv hbq;have bad0 : ∀ g,(∀ k,okq k → k ≠ g) → ¬ (some g = v0.ownBlock):=fun g h e=>h g (hv0 g e.symm).1 rfl;have hk0:=Kept.of_grown hg;have hR11 : ReadAt B w11 R gc gn A2 c2 l2 ok2 [.int .i64 a,.int .i64 b,.int .i64 c3,v0] L2:=hR.kept hk0 (fun k e=>(hv0 k e.symm).2) (bad0 R fun k h=>(hokq k h).1) (bad0 gc fun k h=>(hokq k h).2.1) (bad0 gn fun k h=>(hokq k h).2.2.1);have h411 : Lies w11 g4 Z:=h4.kept hk0 hZ (bad0 g4 fun k h=>(hokq k h).2.2.2);have hK11 : k25.M w11 B okK kx LK:=Kd.M_step hk (fun k h hlt=>hg.block k hlt (hokK k h).2.2)
 have hKb : ∀ k,okK k → okq k ∧ k ≠ bv:=fun k h=>⟨(hokK k h).1,fun e=>by
  rcases hat with hat | ⟨q,hq,hle⟩
  ·exact (hokK k h).2.2 (by rw [e];exact hat)
  ·injection hq with hq
   have:=(hokK k h).2.1
   omega⟩
 obtain ⟨t1,r1,g1⟩:=put_last hRA hK11 hKb;have hk7 : Kept (fun k=>k = bv) w11 (w11.setCells bv (ks.length * 4) LK):=kept_setCells bv _ LK w11;have hR7:=hR11.kept hk7 (fun k e=>by rw [show k = bv from e];exact hbB) (fun e=>nR (show R = bv from e).symm) (fun e=>nc (show gc = bv from e).symm) (fun e=>nn (show gn = bv from e).symm);have h47:=h411.kept hk7 hZ (fun e=>n4 (show g4 = bv from e).symm);have hB7:=below_setCells' bv hbB LK (ks.length * 4) w11 hB;have hR9:=hR11.setOne 3 (by simp) (.slice (some ⟨bv,0,none⟩) (ks.length + 1) cap);have hRA9 : k25.R 25 (w11.setCell ⟨gc,3,none⟩ (.slice (some ⟨bv,0,none⟩) (ks.length + 1) cap)) B okq (.slice (some ⟨bv,0,none⟩) (ks.length + 1) cap) (ks ++ [z25]):=Kd.R_far hRA (p:=⟨gc,3,none⟩) (fun k h=>(hokq k h).2.1) _;have hK9 : k25.M (w11.setCell ⟨gc,3,none⟩ (.slice (some ⟨bv,0,none⟩) (ks.length + 1) cap)) B okK kx LK:=Kd.M_far hK11 (p:=⟨gc,3,none⟩) (fun k h=>(hokq k (hokK k h).1).2.1) _;obtain ⟨t2,r2,g2⟩:=put_last hRA9 hK9 hKb;have hB9:=hB.setCell (p:=⟨gc,3,none⟩) hR.at1 (.slice (some ⟨bv,0,none⟩) (ks.length + 1) cap);refine ⟨t1,hR11.one.frozen 3 (by simp),⟨hR7.one.cell (i:=3) rfl,hR7.one.frozen 3 (by simp)⟩,t2,fun wz hwz=>?_⟩
 rcases hwz with rfl | rfl
 ·exact ⟨hR7.setOne 3 (by simp) _,h47.set_far hn4.2.1 _ _,Kd.R_far r1 (p:=⟨gc,3,none⟩) (fun k h=>(hokq k h).2.1) _,hB7.setCell (p:=⟨gc,3,none⟩) hR.at1 _⟩
 ·have hk8:=kept_setCells bv (ks.length * 4) LK (w11.setCell ⟨gc,3,none⟩ (.slice (some ⟨bv,0,none⟩) (ks.length + 1) cap))
  exact ⟨hR9.kept hk8 (fun k e=>by rw [show k = bv from e];exact hbB) (fun e=>nR (show R = bv from e).symm) (fun e=>nc (show gc = bv from e).symm) (fun e=>nn (show gn = bv from e).symm),
   (h411.set_far hn4.2.1 3 (.slice (some ⟨bv,0,none⟩) (ks.length + 1) cap)).kept hk8 hZ (fun e=>n4 (show g4 = bv from e).symm),r2,below_setCells' bv hbB LK _ _ hB9⟩
theorem build_run0' {P : Program} {o : Oper} {a : Act} {W : World} {t : TypeId} {v : Value} (ho : o.op = .build t #[]) (hr : (Instr.build t #[]).run P W = .ok v W) : (execOp a.eval o).run P W = .ok (.value v) W:=by
 unfold execOp
 simp only [ho,List.map_toArray,List.map_nil,Sem.run_bind,hr,Result.andThen_ok,Sem.run_pure]
theorem slice_event' {P : Program} {ops : Array Oper} {rest : List Oper} {o : Oper} {a : Act} {Q : Exit → Act → World → Prop} {W : World} (hgd : o.guard = none) {N : Tmp} (_hd : o.dst = some N) {cs : Array Value} {t : TypeId} {n c : Nat}
 (hrun : (execOp a.eval o).run P W = .ok (.value (.slice (some ⟨W.heap.size,0,none⟩) n c)) (W.alloc (.cells cs t (0,0))))
 (h : ∀ g,g = W.heap.size → ∀ w1,w1.heap[g]? = some (.cells cs t (0,0)) → Below W.heap.size W w1 → wpList P ops Q rest (a.put o.dst (.slice (some ⟨g,0,none⟩) n c)) w1) : wpList P ops Q (o :: rest) a W:=
 Kd.event_run hgd hrun (h _ rfl _ (blk_new W _) (below_alloc (Below.refl _ _) _))
end Go.Proofs.Ytilckocpgififaa.G
