/- Numbers as bytes, plainly: what compact's Size, lays, Put and Take compute. -/
import Derived.Test.YtilckocpgififaaDoorScHNumber
import Derived.Test.YtilckocpgififaaDoorScGx3
import Derived.Test.YtilckocpgififaaDoorScGx6
import Derived.Test.YtilckocpgififaaDoorScGx7
import Derived.Laws.BitsLemmas
namespace Go.Proofs.YtilckocpgififaaDoor.PNum
open Go.RowKit Go.Proofs.YtilckocpgififaaDoor.G Go.Proofs.YtilckocpgififaaDoorW.PrintWords Go.Proofs.YtilckocpgififaaDoorW.PrintMore
set_option linter.unusedVariables false
set_option linter.unusedSimpArgs false
theorem wrap_in {a : Int} (h0 : 0 ≤ a) (h : a ≤ 9223372036854775807) : wrap64 a = a:=by unfold wrap64;omega
theorem mx_eq (a b : Int) : mx a b = max a b:=by unfold mx;omega
theorem mn_eq (a b : Int) : mn a b = min a b:=by unfold mn;omega
/-! ### bytes, the lowest first -/
def lowB (n : Int) : Nat → List Int
 | 0=>[]
 | s + 1=>n % 256 :: lowB (n / 256) s
def valB : List Int → Int
 | []=>0
 | c :: r=>c + 256 * valB r
def IsBytes (l : List Int) : Prop:=∀ c ∈ l,0 ≤ c ∧ c < 256
theorem lowB_length (n : Int) (s : Nat) : (lowB n s).length = s:=by
 induction s generalizing n with
 | zero=>rfl
 | succ s ih=>simp [lowB,ih]
theorem lowB_bytes (n : Int) (s : Nat) : IsBytes (lowB n s):=by
 induction s generalizing n with
 | zero=>intro c h;simp [lowB] at h
 | succ s ih=>
   intro c h;simp only [lowB,List.mem_cons] at h
   rcases h with rfl | h
   ·omega
   ·exact ih _ c h
theorem valB_lowB (s : Nat) : ∀ n : Int,0 ≤ n → n < 256 ^ s → valB (lowB n s) = n:=by
 induction s with
 | zero=>intro n h0 h;simp at h;simp [lowB,valB];omega
 | succ s ih=>
   intro n h0 h
   have h1 : n / 256 < 256 ^ s:=by
    apply Int.ediv_lt_of_lt_mul (by omega)
    rw [Int.pow_succ] at h;exact h
   simp only [lowB,valB,ih (n / 256) (by omega) h1]
   omega
theorem valB_bound (l : List Int) (h : IsBytes l) : 0 ≤ valB l ∧ valB l < 256 ^ l.length:=by
 induction l with
 | nil=>simp [valB]
 | cons c r ih=>
   have hc:=h c (by simp);have hr:=ih (fun x hx=>h x (by simp [hx]));simp only [valB,List.length_cons,Int.pow_succ];generalize (256 : Int) ^ r.length = p at *
   omega
theorem lowB_valB (l : List Int) (h : IsBytes l) : lowB (valB l) l.length = l:=by
 induction l with
 | nil=>rfl
 | cons c r ih=>
   have hc:=h c (by simp);have hr:=ih (fun x hx=>h x (by simp [hx]))
   have e1 : (c + 256 * valB r) % 256 = c:=by omega
   have e2 : (c + 256 * valB r) / 256 = valB r:=by omega
   simp only [valB,List.length_cons,lowB,e1,e2,hr]
theorem IsBytes.append {a b : List Int} (ha : IsBytes a) (hb : IsBytes b) : IsBytes (a ++ b):=fun c h=>(List.mem_append.1 h).elim (ha c) (hb c)
theorem IsBytes.take {a : List Int} (ha : IsBytes a) (n : Nat) : IsBytes (a.take n):=fun c h=>ha c (List.mem_of_mem_take h)
theorem IsBytes.drop {a : List Int} (ha : IsBytes a) (n : Nat) : IsBytes (a.drop n):=fun c h=>ha c (List.mem_of_mem_drop h)
theorem number_tells (l : List Int) : compact_number.f l = some (wrap64 (valB l)):=by
 unfold compact_number.f
 congr 1
 rw [List.foldl_reverse]
 induction l with
 | nil=>decide +kernel
 | cons c r ih=>
   simp only [List.foldr_cons,ih,valB]
   unfold numStep wrap64
   omega
/-! ### sizes -/
def heldN (n : Int) : Int:=min (max n 0) 4611686018427387904
theorem heldN_bound (n : Int) : 0 ≤ heldN n ∧ heldN n ≤ 4611686018427387904:=by unfold heldN;omega
theorem heldN_in {n : Int} (h0 : 0 ≤ n) (h : n ≤ 4611686018427387904) : heldN n = n:=by unfold heldN;omega
theorem heldN_held (n : Int) : heldN (heldN n) = heldN n:=heldN_in (heldN_bound n).1 (heldN_bound n).2
def widthN (n : Int) : Nat:=if n < 4294967296 then 4 else if n < 1099511627776 then 5 else if n < 281474976710656 then 6 else if n < 72057594037927936 then 7 else 8
def sizeN (n : Int) : Nat:=if heldN n < 64 then 1 else if heldN n < 16384 then 2 else if heldN n < 1073741824 then 4 else 1 + widthN (heldN n)
def numB (n : Int) : List Int:=
 if heldN n < 64 then lowB (4 * heldN n) 1 else if heldN n < 16384 then lowB (4 * heldN n + 1) 2 else if heldN n < 1073741824 then lowB (4 * heldN n + 2) 4
 else (4 * ((widthN (heldN n) : Int) - 4) + 3) :: lowB (heldN n) (widthN (heldN n))
theorem widthN_range (n : Int) : 4 ≤ widthN n ∧ widthN n ≤ 8:=by unfold widthN;(repeat' split) <;> omega
theorem sizeN_range (n : Int) : 1 ≤ sizeN n ∧ sizeN n ≤ 9:=by have:=widthN_range (heldN n);unfold sizeN;(repeat' split) <;> omega
theorem numB_length (n : Int) : (numB n).length = sizeN n:=by
 unfold numB sizeN
 split
 ·simp [lowB_length]
 ·split
  ·simp [lowB_length]
  ·split
   ·simp [lowB_length]
   ·simp [lowB_length];omega
theorem numB_bytes (n : Int) : IsBytes (numB n):=by
 have:=widthN_range (heldN n)
 unfold numB
 (repeat' split)
 ·exact lowB_bytes _ _
 ·exact lowB_bytes _ _
 ·exact lowB_bytes _ _
 ·intro c h
  rcases List.mem_cons.1 h with rfl | h
  ·omega
  ·exact lowB_bytes _ _ c h
theorem sizeN_held (n : Int) : sizeN (heldN n) = sizeN n:=by unfold sizeN;rw [heldN_held]
theorem held_tells (n : Int) : compact_held.f n = some (heldN n):=by
 unfold compact_held.f heldN;rw [mx_eq,mn_eq]
theorem shr_at (n : Int) (m : Nat) (h : m ≤ 64) : shr .i64 n (m : Int) = n / 2 ^ m:=by
 unfold shr
 rw [show min ((m : Int)).toNat IntKind.i64.bits = m from by simp [IntKind.bits];omega]
theorem width_step (k : Nat) (n : Int) (x : Nat) (hx : x < 8) :
 compact_width.l0 (k + 1) n x = if n / 2 ^ (8 * x) > 0 then compact_width.l0 k n ((x + 1 : Nat) : Int) else some (x : Int):=by
 have e : wrap64 (8 * (x : Int)) = ((8 * x : Nat) : Int):=by rw [wrap_in (by omega) (by omega)];omega
 have e1 : wrap64 ((x : Int) + 1) = ((x + 1 : Nat) : Int):=by rw [wrap_in (by omega) (by omega)];omega
 rw [compact_width.l0,if_pos (by omega),e,if_pos (by omega),shr_at _ _ (by omega),e1]
theorem width_end (k : Nat) (n : Int) : compact_width.l0 (k + 1) n ((8 : Nat) : Int) = some 8:=by
 rw [compact_width.l0,if_neg (by omega)];rfl
theorem pos_div (n p : Int) (hp : 0 < p) : (n / p > 0) ↔ p ≤ n:=by
 constructor
 ·intro h;have h1 : 1 * p ≤ n:=(Int.le_ediv_iff_mul_le hp).1 (by omega)
  omega
 ·intro h;have : 1 ≤ n / p:=(Int.le_ediv_iff_mul_le hp).2 (by omega)
  omega
theorem width_tells (k : Nat) (n : Int) (hk : 5 ≤ k) : compact_width.f k n = some (widthN n : Int):=by
 obtain ⟨k,rfl⟩ : ∃ m,k = m + 5:=⟨k - 5,by omega⟩
 unfold compact_width.f widthN
 have s4:=width_step (k + 4) n 4 (by omega);have s5:=width_step (k + 3) n 5 (by omega);have s6:=width_step (k + 2) n 6 (by omega);have s7:=width_step (k + 1) n 7 (by omega);have s8:=width_end k n;have p4:=pos_div n (2 ^ (8 * 4)) (by decide);have p5:=pos_div n (2 ^ (8 * 5)) (by decide);have p6:=pos_div n (2 ^ (8 * 6)) (by decide);have p7:=pos_div n (2 ^ (8 * 7)) (by decide);rw [show ((2 : Int) ^ (8 * 4)) = 4294967296 from by decide] at s4 p4;rw [show ((2 : Int) ^ (8 * 5)) = 1099511627776 from by decide] at s5 p5;rw [show ((2 : Int) ^ (8 * 6)) = 281474976710656 from by decide] at s6 p6;rw [show ((2 : Int) ^ (8 * 7)) = 72057594037927936 from by decide] at s7 p7;refine Eq.trans s4 ?_
 by_cases h4 : n < 4294967296
 ·rw [if_neg (by rw [p4];omega),if_pos h4]
 rw [if_pos (by rw [p4];omega),if_neg h4];refine Eq.trans s5 ?_
 by_cases h5 : n < 1099511627776
 ·rw [if_neg (by rw [p5];omega),if_pos h5]
 rw [if_pos (by rw [p5];omega),if_neg h5];refine Eq.trans s6 ?_
 by_cases h6 : n < 281474976710656
 ·rw [if_neg (by rw [p6];omega),if_pos h6]
 rw [if_pos (by rw [p6];omega),if_neg h6];refine Eq.trans s7 ?_
 by_cases h7 : n < 72057594037927936
 ·rw [if_neg (by rw [p7];omega),if_pos h7]
 rw [if_pos (by rw [p7];omega),if_neg h7];exact s8
theorem size_tells (k : Nat) (n : Int) (hk : 5 ≤ k) : compact_Size.f k n = some (sizeN n : Int):=by
 have hw:=widthN_range (heldN n)
 unfold compact_Size.f sizeN
 rw [held_tells,Option.bind_some,width_tells k _ hk,Option.bind_some]
 (repeat' split)
 ·rfl
 ·rfl
 ·rfl
 ·rw [wrap_in (by omega) (by omega)];simp
/-! ### laying -/
theorem low_loop (s : Nat) : ∀ (k : Nat) (l : List Int) (n : Int) (i m : Nat),m = i + s → m ≤ 1000 → s < k → l.length + s < 140737488355328 →
 compact_low.l0 k l n m i = some (l ++ lowB n s):=by
 induction s with
 | zero=>
   intro k l n i m hm hb hk hl;obtain ⟨k,rfl⟩ : ∃ q,k = q + 1:=⟨k - 1,by omega⟩;rw [compact_low.l0,if_neg (by omega)]
   simp [lowB]
 | succ s ih=>
   intro k l n i m hm hb hk hl;obtain ⟨k,rfl⟩ : ∃ q,k = q + 1:=⟨k - 1,by omega⟩
   have e1 : wrap64 ((i : Int) + 1) = ((i + 1 : Nat) : Int):=by rw [wrap_in (by omega) (by omega)];omega
   rw [compact_low.l0,if_pos (by omega),if_pos (by omega),e1,ih k _ _ (i + 1) m (by omega) hb (by omega) (by simp;omega)]
   simp [lowB]
theorem low_tells (k : Nat) (l : List Int) (n : Int) (s : Nat) (hs : s ≤ 1000) (hk : s < k) (hl : l.length + s < 140737488355328) : compact_low.f k l n s = some (l ++ lowB n s):=
 low_loop s k l n 0 s (by omega) hs hk hl
theorem lays_tells (k : Nat) (l : List Int) (n : Int) (hk : 10 ≤ k) (hl : l.length + 9 < 140737488355328) : compact_lays.f k l n = some (l ++ numB n):=by
 have hb:=heldN_bound n;have hw:=widthN_range (heldN n)
 unfold compact_lays.f numB
 rw [held_tells,Option.bind_some,size_tells k _ (by omega),Option.bind_some,sizeN_held]
 unfold sizeN
 by_cases h1 : heldN n < 64
 ·rw [if_pos h1,if_pos h1,if_pos h1,wrap_in (by omega) (by omega),low_tells k l _ 1 (by omega) (by omega) (by omega),Option.bind_some]
 rw [if_neg h1,if_neg h1,if_neg h1]
 by_cases h2 : heldN n < 16384
 ·rw [if_pos h2,if_pos h2,if_pos h2,wrap_in (a:=4 * heldN n) (by omega) (by omega),wrap_in (by omega) (by omega),low_tells k l _ 2 (by omega) (by omega) (by omega),Option.bind_some]
 rw [if_neg h2,if_neg h2,if_neg h2]
 by_cases h3 : heldN n < 1073741824
 ·rw [if_pos h3,if_pos h3,if_pos h3,wrap_in (a:=4 * heldN n) (by omega) (by omega),wrap_in (by omega) (by omega),low_tells k l _ 4 (by omega) (by omega) (by omega),Option.bind_some]
 rw [if_neg h3,if_neg h3,if_neg h3];generalize widthN (heldN n) = q at hw
 have e1 : wrap64 (((1 + q : Nat) : Int) - 1) = (q : Int):=by rw [wrap_in (by omega) (by omega)];omega
 have e2 : wrap64 ((q : Int) - 4) = (q : Int) - 4:=wrap_in (by omega) (by omega);have e3 : wrap64 (4 * ((q : Int) - 4)) = 4 * ((q : Int) - 4):=wrap_in (by omega) (by omega);have e4 : wrap64 (4 * ((q : Int) - 4) + 3) = 4 * ((q : Int) - 4) + 3:=wrap_in (by omega) (by omega)
 have e5 : (4 * ((q : Int) - 4) + 3) % 256 = 4 * ((q : Int) - 4) + 3:=by omega
 rw [e1,e2,e3,e4,e5,if_pos (by omega),low_tells k _ _ q (by omega) (by omega) (by simp;omega)]
 simp
def numsB (l : List Int) : List Int:=l.flatMap numB
theorem numsB_cons (n : Int) (l : List Int) : numsB (n :: l) = numB n ++ numsB l:=rfl
theorem numsB_length (l : List Int) : (numsB l).length ≤ 9 * l.length:=by
 induction l with
 | nil=>simp [numsB]
 | cons n l ih=>have:=sizeN_range n;rw [numsB_cons,List.length_append,numB_length,List.length_cons];omega
theorem numsB_bytes (l : List Int) : IsBytes (numsB l):=by
 intro c h;obtain ⟨n,_,hc⟩:=List.mem_flatMap.1 h;exact numB_bytes n c hc
theorem rd_nat (l : List Int) (i : Nat) (h : i < l.length) : rd l (i : Int) = l[i]:=by
 unfold rd
 simp [List.getD_eq_getElem?_getD,h]
theorem put_loop (ns : List Int) (d : Nat) : ∀ (k i : Nat) (b : List Int),i + d = ns.length → ns.length ≤ 1000000 → d + 11 ≤ k → b.length + 9 * d + 9 < 140737488355328 →
 compact_Put.l0 k b ns (ns.length : Int) i = some (b ++ numsB (ns.drop i)):=by
 induction d with
 | zero=>
   intro k i b hi hn hk hl;obtain ⟨k,rfl⟩ : ∃ q,k = q + 1:=⟨k - 1,by omega⟩;rw [compact_Put.l0,if_neg (by omega),List.drop_eq_nil_of_le (by omega)]
   simp [numsB]
 | succ d ih=>
   intro k i b hi hn hk hl;obtain ⟨k,rfl⟩ : ∃ q,k = q + 1:=⟨k - 1,by omega⟩
   have hlt : i < ns.length:=by omega
   have e1 : wrap64 ((i : Int) + 1) = ((i + 1 : Nat) : Int):=by rw [wrap_in (by omega) (by omega)];omega
   have hs:=sizeN_range ns[i];have hz:=numB_length ns[i];rw [compact_Put.l0,if_pos (by omega),if_pos (by omega),if_pos (by omega),rd_nat ns i hlt,lays_tells k b _ (by omega) (by omega),Option.bind_some,e1];rw [ih k (i + 1) _ (by omega) hn (by omega) (by rw [List.length_append];omega),List.drop_eq_getElem_cons hlt,numsB_cons]
   simp
theorem put_tells (k : Nat) (b ns : List Int) (hn : ns.length ≤ 1000000) (hk : ns.length + 11 ≤ k) (hb : b.length + 9 * ns.length + 9 < 140737488355328) : compact_Put.f k b ns = some (b ++ numsB ns):=by
 unfold compact_Put.f
 have hc : slices_Clone_byte_byte.f b = some b:=by
  unfold slices_Clone_byte_byte.f
  rw [Option.bind_some,if_pos (by simp;omega)];rfl
 rw [hc,Option.bind_some];exact put_loop ns ns.length k 0 b (by omega) hn hk hb
end Go.Proofs.YtilckocpgififaaDoor.PNum
