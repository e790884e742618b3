/- What compact.Take tells, plainly. -/
import Derived.Test.YtilckocpgififaaDoorScPNum
namespace Go.Proofs.YtilckocpgififaaDoor.PNum
open Go.RowKit Go.Proofs.YtilckocpgififaaDoor.G Go.Proofs.YtilckocpgififaaDoorW.PrintWords Go.Proofs.YtilckocpgififaaDoorW.PrintMore
set_option linter.unusedVariables false
set_option linter.unusedSimpArgs false
def headSize (c : Int) : Nat:=if c % 4 = 0 then 1 else if c % 4 = 1 then 2 else if c % 4 = 2 then 4 else 5 + (c / 4).toNat
def valAt (c : Int) (l : List Int) : Int:=if c % 4 = 3 then wrap64 (valB ((l.take (headSize c)).drop 1)) else valB (l.take (headSize c)) / 4
def takeAt (c : Int) (l : List Int) : Option (Int × Nat):=
 if 9 < headSize c ∨ l.length < headSize c then none
 else if valAt c l < 0 ∨ 4611686018427387904 < valAt c l ∨ sizeN (valAt c l) ≠ headSize c then none else some (valAt c l,headSize c)
def takeN : List Int → Option (Int × Nat)
 | []=>none
 | c :: r=>takeAt c (c :: r)
def outT : Option (Int × Nat) → Int × Int × Bool
 | none=>(0,0,false)
 | some (n,s)=>(n,(s : Int),true)
theorem pow_256_4 : (256 : Int) ^ 4 = 4294967296:=by decide
theorem pow_256_8 : (256 : Int) ^ 8 = 18446744073709551616:=by decide
/-! ### what is told is what was put -/
theorem takeN_put {n : Int} (h0 : 0 ≤ n) (h : n ≤ 4611686018427387904) (more : List Int) : takeN (numB n ++ more) = some (n,sizeN n):=by
 have hh:=heldN_in h0 h;have hw:=widthN_range n
 have key : ∀ (c : Int) (r : List Int),numB n = c :: r → headSize c = sizeN n → valAt c (numB n ++ more) = n → takeN (numB n ++ more) = some (n,sizeN n):=by
  intro c r he hs hv;have hl:=numB_length n;have hz:=sizeN_range n
  have e : takeN (numB n ++ more) = takeAt c (numB n ++ more):=by rw [he];rfl
  rw [e]
  unfold takeAt
  rw [hv,hs,if_neg (by rw [List.length_append];omega),if_neg (by simp;omega)]
 have htake : ∀ s,sizeN n = s → (numB n ++ more).take s = numB n:=by
  intro s hs;rw [← hs,← numB_length n];exact List.take_left'  rfl
 by_cases h1 : n < 64
 ·have e : numB n = [4 * n]:=by
   unfold numB;rw [hh,if_pos h1];simp [lowB];omega
  have es : sizeN n = 1:=by unfold sizeN;rw [hh,if_pos h1]
  have hc : headSize (4 * n) = 1:=by unfold headSize;rw [if_pos (by omega)]
  refine key _ _ e (by rw [hc,es]) ?_
  unfold valAt
  rw [if_neg (by omega),hc,htake 1 es,e]
  simp [valB]
 by_cases h2 : n < 16384
 ·have e : numB n = [(4 * n + 1) % 256,(4 * n + 1) / 256 % 256]:=by unfold numB;rw [hh,if_neg h1,if_pos h2];rfl
  have ev : valB (numB n) = 4 * n + 1:=by
   unfold numB;rw [hh,if_neg h1,if_pos h2];exact valB_lowB 2 _ (by omega) (by simp;omega)
  have es : sizeN n = 2:=by unfold sizeN;rw [hh,if_neg h1,if_pos h2]
  have hc : headSize ((4 * n + 1) % 256) = 2:=by unfold headSize;rw [if_neg (by omega),if_pos (by omega)]
  refine key _ _ e (by rw [hc,es]) ?_
  unfold valAt
  rw [if_neg (by omega),hc,htake 2 es,ev]
  omega
 by_cases h3 : n < 1073741824
 ·have e : numB n = (4 * n + 2) % 256 :: lowB ((4 * n + 2) / 256) 3:=by unfold numB;rw [hh,if_neg h1,if_neg h2,if_pos h3];rfl
  have ev : valB (numB n) = 4 * n + 2:=by
   unfold numB;rw [hh,if_neg h1,if_neg h2,if_pos h3];exact valB_lowB 4 _ (by omega) (by rw [pow_256_4];omega)
  have es : sizeN n = 4:=by unfold sizeN;rw [hh,if_neg h1,if_neg h2,if_pos h3]
  have hc : headSize ((4 * n + 2) % 256) = 4:=by unfold headSize;rw [if_neg (by omega),if_neg (by omega),if_pos (by omega)]
  refine key _ _ e (by rw [hc,es]) ?_
  unfold valAt
  rw [if_neg (by omega),hc,htake 4 es,ev]
  omega
 have e : numB n = (4 * ((widthN n : Int) - 4) + 3) :: lowB n (widthN n):=by unfold numB;rw [hh,if_neg h1,if_neg h2,if_neg h3]
 have es : sizeN n = 1 + widthN n:=by unfold sizeN;rw [hh,if_neg h1,if_neg h2,if_neg h3]
 have hc : headSize (4 * ((widthN n : Int) - 4) + 3) = 1 + widthN n:=by unfold headSize;rw [if_neg (by omega),if_neg (by omega),if_neg (by omega)];omega
 have hb : n < 256 ^ widthN n:=by
  have hwn : widthN n = 4 ∧ n < 4294967296 ∨ widthN n = 5 ∧ n < 1099511627776 ∨ widthN n = 6 ∧ n < 281474976710656 ∨ widthN n = 7 ∧ n < 72057594037927936 ∨ widthN n = 8:=by
   unfold widthN;(repeat' split) <;> omega
  rcases hwn with ⟨w,hn⟩ | ⟨w,hn⟩ | ⟨w,hn⟩ | ⟨w,hn⟩ | w <;> rw [w]
  ·exact hn
  ·exact hn
  ·exact hn
  ·exact hn
  ·rw [pow_256_8];omega
 refine key _ _ e (by rw [hc,es]) ?_
 unfold valAt
 rw [if_pos (by omega),hc,htake _ es,e,List.drop_one,List.tail_cons,valB_lowB _ n h0 hb];exact wrap_in h0 (by omega)
/-! ### what is told was put -/
theorem takeN_tells {l : List Int} (hl : IsBytes l) {n : Int} {s : Nat} (h : takeN l = some (n,s)) : 0 ≤ n ∧ n ≤ 4611686018427387904 ∧ s = sizeN n ∧ s ≤ l.length ∧ l.take s = numB n:=by
 cases l with
 | nil=>cases h
 | cons c r=>
   have hc:=hl c (by simp)
   change takeAt c (c :: r) = some (n,s) at h
   unfold takeAt at h
   by_cases ha : 9 < headSize c ∨ (c :: r).length < headSize c
   ·rw [if_pos ha] at h;cases h
   rw [if_neg ha] at h
   by_cases hb : valAt c (c :: r) < 0 ∨ 4611686018427387904 < valAt c (c :: r) ∨ sizeN (valAt c (c :: r)) ≠ headSize c
   ·rw [if_pos hb] at h;cases h
   rw [if_neg hb] at h
   injection h with h
   injection h with hn hs
   have q0 : 0 ≤ n:=by omega
   have q1 : n ≤ 4611686018427387904:=by omega
   have hss : sizeN n = headSize c:=by rw [← hn];omega
   have hh:=heldN_in q0 q1
   have hlen : s ≤ (c :: r).length:=by omega
   refine ⟨q0,q1,by omega,hlen,?_⟩;have hw:=widthN_range n
   have htl : ((c :: r).take s).length = s:=by rw [List.length_take];omega
   have hbt : IsBytes ((c :: r).take s):=hl.take s;have hlow:=lowB_valB _ hbt;rw [htl] at hlow
   have hs1 : 1 ≤ s:=by have:=sizeN_range n;omega
   have hcons : (c :: r).take s = c :: r.take (s - 1):=by
    obtain ⟨q,rfl⟩ : ∃ q,s = q + 1:=⟨s - 1,by omega⟩
    simp
   have hvm : valB ((c :: r).take s) = c + 256 * valB (r.take (s - 1)):=by rw [hcons];rfl
   rw [hs] at hss
   unfold valAt at hn
   rw [hs] at hn
   unfold headSize at hs
   by_cases c0 : c % 4 = 0
   ·rw [if_pos c0] at hs;rw [if_neg (by omega)] at hn
    have hn1 : n < 64:=by
     unfold sizeN at hss;rw [hh,← hs] at hss
     by_cases h1 : n < 64
     ·exact h1
     rw [if_neg h1] at hss;(repeat' split at hss) <;> omega
    unfold numB
    rw [hh,if_pos hn1,← hlow,hvm,← hs];rw [← hs] at hn hvm
    congr 1
    omega
   rw [if_neg c0] at hs
   by_cases c1 : c % 4 = 1
   ·rw [if_pos c1] at hs;rw [if_neg (by omega)] at hn
    have hn1 : ¬ n < 64 ∧ n < 16384:=by
     unfold sizeN at hss;rw [hh,← hs] at hss
     by_cases h1 : n < 64
     ·rw [if_pos h1] at hss;omega
     rw [if_neg h1] at hss
     by_cases h2 : n < 16384
     ·exact ⟨h1,h2⟩
     rw [if_neg h2] at hss;(repeat' split at hss) <;> omega
    unfold numB
    rw [hh,if_neg hn1.1,if_pos hn1.2,← hlow,hvm,← hs];rw [← hs] at hn hvm
    congr 1
    omega
   rw [if_neg c1] at hs
   by_cases c2 : c % 4 = 2
   ·rw [if_pos c2] at hs;rw [if_neg (by omega)] at hn
    have hn1 : ¬ n < 64 ∧ ¬ n < 16384 ∧ n < 1073741824:=by
     unfold sizeN at hss;rw [hh,← hs] at hss
     by_cases h1 : n < 64
     ·rw [if_pos h1] at hss;omega
     rw [if_neg h1] at hss
     by_cases h2 : n < 16384
     ·rw [if_pos h2] at hss;omega
     rw [if_neg h2] at hss
     by_cases h3 : n < 1073741824
     ·exact ⟨h1,h2,h3⟩
     rw [if_neg h3] at hss;omega
    unfold numB
    rw [hh,if_neg hn1.1,if_neg hn1.2.1,if_pos hn1.2.2,← hlow,hvm,← hs];rw [← hs] at hn hvm
    congr 1
    omega
   rw [if_neg c2] at hs;rw [if_pos (by omega),hcons,List.drop_one,List.tail_cons] at hn
   have hn1 : ¬ n < 64 ∧ ¬ n < 16384 ∧ ¬ n < 1073741824:=by
    unfold sizeN at hss;rw [hh] at hss
    by_cases h1 : n < 64
    ·rw [if_pos h1] at hss;omega
    rw [if_neg h1] at hss
    by_cases h2 : n < 16384
    ·rw [if_pos h2] at hss;omega
    rw [if_neg h2] at hss
    by_cases h3 : n < 1073741824
    rotate_left
    ·exact ⟨h1,h2,h3⟩
    rw [if_pos h3] at hss;omega
   have hsw : s = 1 + widthN n:=by
    unfold sizeN at hss;rw [hh,if_neg hn1.1,if_neg hn1.2.1,if_neg hn1.2.2] at hss;omega
   have hr : IsBytes (r.take (s - 1)):=fun x hx=>hl x (List.mem_cons_of_mem _ (List.mem_of_mem_take hx))
   have hrl : (r.take (s - 1)).length = widthN n:=by rw [List.length_take];simp at hlen;omega
   have hb:=valB_bound _ hr
   have hp : (256 : Int) ^ (r.take (s - 1)).length ≤ 18446744073709551616:=by
    rw [hrl]
    have hx : widthN n = 4 ∨ widthN n = 5 ∨ widthN n = 6 ∨ widthN n = 7 ∨ widthN n = 8:=by omega
    rcases hx with x | x | x | x | x <;> rw [x] <;> decide
   have hv : valB (r.take (s - 1)) = n:=by
    have hx : valB (r.take (s - 1)) < 18446744073709551616:=Int.lt_of_lt_of_le hb.2 hp;have hy:=hb.1
    unfold wrap64 at hn
    omega
   have hlr:=lowB_valB _ hr;rw [hv,hrl] at hlr
   unfold numB
   rw [hh,if_neg hn1.1,if_neg hn1.2.1,if_neg hn1.2.2,hcons,hlr]
   congr 1
   omega
end Go.Proofs.YtilckocpgififaaDoor.PNum
