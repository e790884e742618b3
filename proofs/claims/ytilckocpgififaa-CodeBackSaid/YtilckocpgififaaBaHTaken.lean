/- Numbers as bytes, plainly: what compact's Size, lays, Put and Take compute. -/
import Derived.Test.YtilckocpgififaaBaHNumber
import Derived.Test.YtilckocpgififaaBaGx3
import Derived.Test.YtilckocpgififaaBaGx9
import Derived.Test.YtilckocpgififaaBaGx7
import Derived.Laws.BitsLemmas
import Derived.Test.YtilckocpgififaaBaGx1
import Derived.IntWalk
import Derived.Test.YtilckocpgififaaBaHLies
import Derived.Test.YtilckocpgififaaBaHSameCall
import Derived.Deep.RegionHeld3
namespace Go.Proofs.Ytilckocpgififaa.PNum
open Go.RowKit Go.Proofs.Ytilckocpgififaa.G Go.Proofs.YtilckocpgififaaW.PrintWords Go.Proofs.YtilckocpgififaaW.PrintMore
set_option linter.unusedVariables false
set_option linter.unusedSimpArgs false

theorem wrap_in {a : Int} (h0 : 0 ≤ a) (h : a ≤ 9223372036854775807) : wrap64 a = a := by unfold wrap64; omega
theorem mx_eq (a b : Int) : mx a b = max a b := by unfold mx; omega
theorem mn_eq (a b : Int) : mn a b = min a b := by unfold mn; omega

/-! ### bytes, the lowest first -/
def lowB (n : Int) : Nat → List Int
  | 0 => []
  | s + 1 => n % 256 :: lowB (n / 256) s
def valB : List Int → Int
  | [] => 0
  | c :: r => c + 256 * valB r
def IsBytes (l : List Int) : Prop := ∀ c ∈ l, 0 ≤ c ∧ c < 256
theorem lowB_length (n : Int) (s : Nat) : (lowB n s).length = s := by
  induction s generalizing n with
  | zero => rfl
  | succ s ih => simp [lowB, ih]
theorem lowB_bytes (n : Int) (s : Nat) : IsBytes (lowB n s) := by
  induction s generalizing n with
  | zero => intro c h; simp [lowB] at h
  | succ s ih =>
    intro c h
    simp only [lowB, List.mem_cons] at h
    rcases h with rfl | h
    · omega
    · exact ih _ c h
theorem valB_lowB (s : Nat) : ∀ n : Int, 0 ≤ n → n < 256 ^ s → valB (lowB n s) = n := by
  induction s with
  | zero => intro n h0 h; simp at h; simp [lowB, valB]; omega
  | succ s ih =>
    intro n h0 h
    have h1 : n / 256 < 256 ^ s := by
      apply Int.ediv_lt_of_lt_mul (by omega)
      rw [Int.pow_succ] at h
      exact h
    simp only [lowB, valB, ih (n / 256) (by omega) h1]
    omega
theorem valB_bound (l : List Int) (h : IsBytes l) : 0 ≤ valB l ∧ valB l < 256 ^ l.length := by
  induction l with
  | nil => simp [valB]
  | cons c r ih =>
    have hc := h c (by simp)
    have hr := ih (fun x hx => h x (by simp [hx]))
    simp only [valB, List.length_cons, Int.pow_succ]
    generalize (256 : Int) ^ r.length = p at *
    omega
theorem lowB_valB (l : List Int) (h : IsBytes l) : lowB (valB l) l.length = l := by
  induction l with
  | nil => rfl
  | cons c r ih =>
    have hc := h c (by simp)
    have hr := ih (fun x hx => h x (by simp [hx]))
    have e1 : (c + 256 * valB r) % 256 = c := by omega
    have e2 : (c + 256 * valB r) / 256 = valB r := by omega
    simp only [valB, List.length_cons, lowB, e1, e2, hr]
theorem IsBytes.append {a b : List Int} (ha : IsBytes a) (hb : IsBytes b) : IsBytes (a ++ b) := fun c h => (List.mem_append.1 h).elim (ha c) (hb c)
theorem IsBytes.take {a : List Int} (ha : IsBytes a) (n : Nat) : IsBytes (a.take n) := fun c h => ha c (List.mem_of_mem_take h)
theorem IsBytes.drop {a : List Int} (ha : IsBytes a) (n : Nat) : IsBytes (a.drop n) := fun c h => ha c (List.mem_of_mem_drop h)

theorem number_tells (l : List Int) : compact_number.f l = some (wrap64 (valB l)) := by
  unfold compact_number.f
  congr 1
  rw [List.foldl_reverse]
  induction l with
  | nil => decide +kernel
  | cons c r ih =>
    simp only [List.foldr_cons, ih, valB]
    unfold numStep wrap64
    omega

/-! ### sizes -/
def heldN (n : Int) : Int := min (max n 0) 4611686018427387904
theorem heldN_bound (n : Int) : 0 ≤ heldN n ∧ heldN n ≤ 4611686018427387904 := by unfold heldN; omega
theorem heldN_in {n : Int} (h0 : 0 ≤ n) (h : n ≤ 4611686018427387904) : heldN n = n := by unfold heldN; omega
theorem heldN_held (n : Int) : heldN (heldN n) = heldN n := heldN_in (heldN_bound n).1 (heldN_bound n).2
def widthN (n : Int) : Nat := if n < 4294967296 then 4 else if n < 1099511627776 then 5 else if n < 281474976710656 then 6 else if n < 72057594037927936 then 7 else 8
def sizeN (n : Int) : Nat := if heldN n < 64 then 1 else if heldN n < 16384 then 2 else if heldN n < 1073741824 then 4 else 1 + widthN (heldN n)
def numB (n : Int) : List Int :=
  if heldN n < 64 then lowB (4 * heldN n) 1 else if heldN n < 16384 then lowB (4 * heldN n + 1) 2 else if heldN n < 1073741824 then lowB (4 * heldN n + 2) 4
  else (4 * ((widthN (heldN n) : Int) - 4) + 3) :: lowB (heldN n) (widthN (heldN n))
theorem widthN_range (n : Int) : 4 ≤ widthN n ∧ widthN n ≤ 8 := by unfold widthN; (repeat' split) <;> omega
theorem sizeN_range (n : Int) : 1 ≤ sizeN n ∧ sizeN n ≤ 9 := by have := widthN_range (heldN n); unfold sizeN; (repeat' split) <;> omega
theorem numB_length (n : Int) : (numB n).length = sizeN n := by
  unfold numB sizeN
  split
  · simp [lowB_length]
  · split
    · simp [lowB_length]
    · split
      · simp [lowB_length]
      · simp [lowB_length]; omega
theorem numB_bytes (n : Int) : IsBytes (numB n) := by
  have := widthN_range (heldN n)
  unfold numB
  (repeat' split)
  · exact lowB_bytes _ _
  · exact lowB_bytes _ _
  · exact lowB_bytes _ _
  · intro c h
    rcases List.mem_cons.1 h with rfl | h
    · omega
    · exact lowB_bytes _ _ c h
theorem sizeN_held (n : Int) : sizeN (heldN n) = sizeN n := by unfold sizeN; rw [heldN_held]

theorem held_tells (n : Int) : compact_held.f n = some (heldN n) := by
  unfold compact_held.f heldN; rw [mx_eq, mn_eq]

theorem shr_at (n : Int) (m : Nat) (h : m ≤ 64) : shr .i64 n (m : Int) = n / 2 ^ m := by
  unfold shr
  rw [show min ((m : Int)).toNat IntKind.i64.bits = m from by simp [IntKind.bits]; omega]

theorem width_step (k : Nat) (n : Int) (x : Nat) (hx : x < 8) :
    compact_width.l0 (k + 1) n x = if n / 2 ^ (8 * x) > 0 then compact_width.l0 k n ((x + 1 : Nat) : Int) else some (x : Int) := by
  have e : wrap64 (8 * (x : Int)) = ((8 * x : Nat) : Int) := by rw [wrap_in (by omega) (by omega)]; omega
  have e1 : wrap64 ((x : Int) + 1) = ((x + 1 : Nat) : Int) := by rw [wrap_in (by omega) (by omega)]; omega
  rw [compact_width.l0, if_pos (by omega), e, if_pos (by omega), shr_at _ _ (by omega), e1]
theorem width_end (k : Nat) (n : Int) : compact_width.l0 (k + 1) n ((8 : Nat) : Int) = some 8 := by
  rw [compact_width.l0, if_neg (by omega)]; rfl

theorem pos_div (n p : Int) (hp : 0 < p) : (n / p > 0) ↔ p ≤ n := by
  constructor
  · intro h
    have h1 : 1 * p ≤ n := (Int.le_ediv_iff_mul_le hp).1 (by omega)
    omega
  · intro h
    have : 1 ≤ n / p := (Int.le_ediv_iff_mul_le hp).2 (by omega)
    omega

theorem width_tells (k : Nat) (n : Int) (hk : 5 ≤ k) : compact_width.f k n = some (widthN n : Int) := by
  obtain ⟨k, rfl⟩ : ∃ m, k = m + 5 := ⟨k - 5, by omega⟩
  unfold compact_width.f widthN
  have s4 := width_step (k + 4) n 4 (by omega)
  have s5 := width_step (k + 3) n 5 (by omega)
  have s6 := width_step (k + 2) n 6 (by omega)
  have s7 := width_step (k + 1) n 7 (by omega)
  have s8 := width_end k n
  have p4 := pos_div n (2 ^ (8 * 4)) (by decide)
  have p5 := pos_div n (2 ^ (8 * 5)) (by decide)
  have p6 := pos_div n (2 ^ (8 * 6)) (by decide)
  have p7 := pos_div n (2 ^ (8 * 7)) (by decide)
  rw [show ((2 : Int) ^ (8 * 4)) = 4294967296 from by decide] at s4 p4
  rw [show ((2 : Int) ^ (8 * 5)) = 1099511627776 from by decide] at s5 p5
  rw [show ((2 : Int) ^ (8 * 6)) = 281474976710656 from by decide] at s6 p6
  rw [show ((2 : Int) ^ (8 * 7)) = 72057594037927936 from by decide] at s7 p7
  refine Eq.trans s4 ?_
  by_cases h4 : n < 4294967296
  · rw [if_neg (by rw [p4]; omega), if_pos h4]
  · rw [if_pos (by rw [p4]; omega), if_neg h4]
    refine Eq.trans s5 ?_
    by_cases h5 : n < 1099511627776
    · rw [if_neg (by rw [p5]; omega), if_pos h5]
    · rw [if_pos (by rw [p5]; omega), if_neg h5]
      refine Eq.trans s6 ?_
      by_cases h6 : n < 281474976710656
      · rw [if_neg (by rw [p6]; omega), if_pos h6]
      · rw [if_pos (by rw [p6]; omega), if_neg h6]
        refine Eq.trans s7 ?_
        by_cases h7 : n < 72057594037927936
        · rw [if_neg (by rw [p7]; omega), if_pos h7]
        · rw [if_pos (by rw [p7]; omega), if_neg h7]
          exact s8

theorem size_tells (k : Nat) (n : Int) (hk : 5 ≤ k) : compact_Size.f k n = some (sizeN n : Int) := by
  have hw := widthN_range (heldN n)
  unfold compact_Size.f sizeN
  rw [held_tells, Option.bind_some, width_tells k _ hk, Option.bind_some]
  (repeat' split)
  · rfl
  · rfl
  · rfl
  · rw [wrap_in (by omega) (by omega)]; simp

/-! ### laying -/
theorem low_loop (s : Nat) : ∀ (k : Nat) (l : List Int) (n : Int) (i m : Nat), m = i + s → m ≤ 1000 → s < k → l.length + s < 140737488355328 →
    compact_low.l0 k l n m i = some (l ++ lowB n s) := by
  induction s with
  | zero =>
    intro k l n i m hm hb hk hl
    obtain ⟨k, rfl⟩ : ∃ q, k = q + 1 := ⟨k - 1, by omega⟩
    rw [compact_low.l0, if_neg (by omega)]
    simp [lowB]
  | succ s ih =>
    intro k l n i m hm hb hk hl
    obtain ⟨k, rfl⟩ : ∃ q, k = q + 1 := ⟨k - 1, by omega⟩
    have e1 : wrap64 ((i : Int) + 1) = ((i + 1 : Nat) : Int) := by rw [wrap_in (by omega) (by omega)]; omega
    rw [compact_low.l0, if_pos (by omega), if_pos (by omega), e1, ih k _ _ (i + 1) m (by omega) hb (by omega) (by simp; omega)]
    simp [lowB]
theorem low_tells (k : Nat) (l : List Int) (n : Int) (s : Nat) (hs : s ≤ 1000) (hk : s < k) (hl : l.length + s < 140737488355328) : compact_low.f k l n s = some (l ++ lowB n s) :=
  low_loop s k l n 0 s (by omega) hs hk hl

theorem lays_tells (k : Nat) (l : List Int) (n : Int) (hk : 10 ≤ k) (hl : l.length + 9 < 140737488355328) : compact_lays.f k l n = some (l ++ numB n) := by
  have hb := heldN_bound n
  have hw := widthN_range (heldN n)
  unfold compact_lays.f numB
  rw [held_tells, Option.bind_some, size_tells k _ (by omega), Option.bind_some, sizeN_held]
  unfold sizeN
  by_cases h1 : heldN n < 64
  · rw [if_pos h1, if_pos h1, if_pos h1, wrap_in (by omega) (by omega), low_tells k l _ 1 (by omega) (by omega) (by omega), Option.bind_some]
  · rw [if_neg h1, if_neg h1, if_neg h1]
    by_cases h2 : heldN n < 16384
    · rw [if_pos h2, if_pos h2, if_pos h2, wrap_in (a := 4 * heldN n) (by omega) (by omega), wrap_in (by omega) (by omega), low_tells k l _ 2 (by omega) (by omega) (by omega), Option.bind_some]
    · rw [if_neg h2, if_neg h2, if_neg h2]
      by_cases h3 : heldN n < 1073741824
      · rw [if_pos h3, if_pos h3, if_pos h3, wrap_in (a := 4 * heldN n) (by omega) (by omega), wrap_in (by omega) (by omega), low_tells k l _ 4 (by omega) (by omega) (by omega), Option.bind_some]
      · rw [if_neg h3, if_neg h3, if_neg h3]
        generalize widthN (heldN n) = q at hw
        have e1 : wrap64 (((1 + q : Nat) : Int) - 1) = (q : Int) := by rw [wrap_in (by omega) (by omega)]; omega
        have e2 : wrap64 ((q : Int) - 4) = (q : Int) - 4 := wrap_in (by omega) (by omega)
        have e3 : wrap64 (4 * ((q : Int) - 4)) = 4 * ((q : Int) - 4) := wrap_in (by omega) (by omega)
        have e4 : wrap64 (4 * ((q : Int) - 4) + 3) = 4 * ((q : Int) - 4) + 3 := wrap_in (by omega) (by omega)
        have e5 : (4 * ((q : Int) - 4) + 3) % 256 = 4 * ((q : Int) - 4) + 3 := by omega
        rw [e1, e2, e3, e4, e5, if_pos (by omega), low_tells k _ _ q (by omega) (by omega) (by simp; omega)]
        simp

/-- Numbers one behind the other. -/
def numsB (l : List Int) : List Int := l.flatMap numB
theorem numsB_cons (n : Int) (l : List Int) : numsB (n :: l) = numB n ++ numsB l := rfl
theorem numsB_length (l : List Int) : (numsB l).length ≤ 9 * l.length := by
  induction l with
  | nil => simp [numsB]
  | cons n l ih => have := sizeN_range n; rw [numsB_cons, List.length_append, numB_length, List.length_cons]; omega
theorem numsB_bytes (l : List Int) : IsBytes (numsB l) := by
  intro c h
  obtain ⟨n, _, hc⟩ := List.mem_flatMap.1 h
  exact numB_bytes n c hc

theorem rd_nat (l : List Int) (i : Nat) (h : i < l.length) : rd l (i : Int) = l[i] := by
  unfold rd
  simp [List.getD_eq_getElem?_getD, h]

theorem put_loop (ns : List Int) (d : Nat) : ∀ (k i : Nat) (b : List Int), i + d = ns.length → ns.length ≤ 1000000 → d + 11 ≤ k → b.length + 9 * d + 9 < 140737488355328 →
    compact_Put.l0 k b ns (ns.length : Int) i = some (b ++ numsB (ns.drop i)) := by
  induction d with
  | zero =>
    intro k i b hi hn hk hl
    obtain ⟨k, rfl⟩ : ∃ q, k = q + 1 := ⟨k - 1, by omega⟩
    rw [compact_Put.l0, if_neg (by omega), List.drop_eq_nil_of_le (by omega)]
    simp [numsB]
  | succ d ih =>
    intro k i b hi hn hk hl
    obtain ⟨k, rfl⟩ : ∃ q, k = q + 1 := ⟨k - 1, by omega⟩
    have hlt : i < ns.length := by omega
    have e1 : wrap64 ((i : Int) + 1) = ((i + 1 : Nat) : Int) := by rw [wrap_in (by omega) (by omega)]; omega
    have hs := sizeN_range ns[i]
    have hz := numB_length ns[i]
    rw [compact_Put.l0, if_pos (by omega), if_pos (by omega), if_pos (by omega), rd_nat ns i hlt, lays_tells k b _ (by omega) (by omega), Option.bind_some, e1]
    rw [ih k (i + 1) _ (by omega) hn (by omega) (by rw [List.length_append]; omega), List.drop_eq_getElem_cons hlt, numsB_cons]
    simp
theorem put_tells (k : Nat) (b ns : List Int) (hn : ns.length ≤ 1000000) (hk : ns.length + 11 ≤ k) (hb : b.length + 9 * ns.length + 9 < 140737488355328) : compact_Put.f k b ns = some (b ++ numsB ns) := by
  unfold compact_Put.f
  have hc : slices_Clone_byte_byte.f b = some b := by
    unfold slices_Clone_byte_byte.f
    rw [Option.bind_some, if_pos (by simp; omega)]; rfl
  rw [hc, Option.bind_some]
  exact put_loop ns ns.length k 0 b (by omega) hn hk hb

end Go.Proofs.Ytilckocpgififaa.PNum

/- What compact.Take tells, plainly. -/
namespace Go.Proofs.Ytilckocpgififaa.PNum
open Go.RowKit Go.Proofs.Ytilckocpgififaa.G Go.Proofs.YtilckocpgififaaW.PrintWords Go.Proofs.YtilckocpgififaaW.PrintMore
set_option linter.unusedVariables false
set_option linter.unusedSimpArgs false

def headSize (c : Int) : Nat := if c % 4 = 0 then 1 else if c % 4 = 1 then 2 else if c % 4 = 2 then 4 else 5 + (c / 4).toNat
def valAt (c : Int) (l : List Int) : Int := if c % 4 = 3 then wrap64 (valB ((l.take (headSize c)).drop 1)) else valB (l.take (headSize c)) / 4
def takeAt (c : Int) (l : List Int) : Option (Int × Nat) :=
  if 9 < headSize c ∨ l.length < headSize c then none
  else if valAt c l < 0 ∨ 4611686018427387904 < valAt c l ∨ sizeN (valAt c l) ≠ headSize c then none else some (valAt c l, headSize c)
def takeN : List Int → Option (Int × Nat)
  | [] => none
  | c :: r => takeAt c (c :: r)
def outT : Option (Int × Nat) → Int × Int × Bool
  | none => (0, 0, false)
  | some (n, s) => (n, (s : Int), true)

theorem pow_256_4 : (256 : Int) ^ 4 = 4294967296 := by decide
theorem pow_256_8 : (256 : Int) ^ 8 = 18446744073709551616 := by decide

/-! ### what is told is what was put -/
theorem takeN_put {n : Int} (h0 : 0 ≤ n) (h : n ≤ 4611686018427387904) (more : List Int) : takeN (numB n ++ more) = some (n, sizeN n) := by
  have hh := heldN_in h0 h
  have hw := widthN_range n
  have key : ∀ (c : Int) (r : List Int), numB n = c :: r → headSize c = sizeN n → valAt c (numB n ++ more) = n → takeN (numB n ++ more) = some (n, sizeN n) := by
    intro c r he hs hv
    have hl := numB_length n
    have hz := sizeN_range n
    have e : takeN (numB n ++ more) = takeAt c (numB n ++ more) := by rw [he]; rfl
    rw [e]
    unfold takeAt
    rw [hv, hs, if_neg (by rw [List.length_append]; omega), if_neg (by simp; omega)]
  have htake : ∀ s, sizeN n = s → (numB n ++ more).take s = numB n := by
    intro s hs
    rw [← hs, ← numB_length n]
    exact List.take_left'  rfl
  by_cases h1 : n < 64
  · have e : numB n = [4 * n] := by
      unfold numB; rw [hh, if_pos h1]; simp [lowB]; omega
    have es : sizeN n = 1 := by unfold sizeN; rw [hh, if_pos h1]
    have hc : headSize (4 * n) = 1 := by unfold headSize; rw [if_pos (by omega)]
    refine key _ _ e (by rw [hc, es]) ?_
    unfold valAt
    rw [if_neg (by omega), hc, htake 1 es, e]
    simp [valB]
  · by_cases h2 : n < 16384
    · have e : numB n = [(4 * n + 1) % 256, (4 * n + 1) / 256 % 256] := by unfold numB; rw [hh, if_neg h1, if_pos h2]; rfl
      have ev : valB (numB n) = 4 * n + 1 := by
        unfold numB; rw [hh, if_neg h1, if_pos h2]; exact valB_lowB 2 _ (by omega) (by simp; omega)
      have es : sizeN n = 2 := by unfold sizeN; rw [hh, if_neg h1, if_pos h2]
      have hc : headSize ((4 * n + 1) % 256) = 2 := by unfold headSize; rw [if_neg (by omega), if_pos (by omega)]
      refine key _ _ e (by rw [hc, es]) ?_
      unfold valAt
      rw [if_neg (by omega), hc, htake 2 es, ev]
      omega
    · by_cases h3 : n < 1073741824
      · have e : numB n = (4 * n + 2) % 256 :: lowB ((4 * n + 2) / 256) 3 := by unfold numB; rw [hh, if_neg h1, if_neg h2, if_pos h3]; rfl
        have ev : valB (numB n) = 4 * n + 2 := by
          unfold numB; rw [hh, if_neg h1, if_neg h2, if_pos h3]; exact valB_lowB 4 _ (by omega) (by rw [pow_256_4]; omega)
        have es : sizeN n = 4 := by unfold sizeN; rw [hh, if_neg h1, if_neg h2, if_pos h3]
        have hc : headSize ((4 * n + 2) % 256) = 4 := by unfold headSize; rw [if_neg (by omega), if_neg (by omega), if_pos (by omega)]
        refine key _ _ e (by rw [hc, es]) ?_
        unfold valAt
        rw [if_neg (by omega), hc, htake 4 es, ev]
        omega
      · have e : numB n = (4 * ((widthN n : Int) - 4) + 3) :: lowB n (widthN n) := by unfold numB; rw [hh, if_neg h1, if_neg h2, if_neg h3]
        have es : sizeN n = 1 + widthN n := by unfold sizeN; rw [hh, if_neg h1, if_neg h2, if_neg h3]
        have hc : headSize (4 * ((widthN n : Int) - 4) + 3) = 1 + widthN n := by unfold headSize; rw [if_neg (by omega), if_neg (by omega), if_neg (by omega)]; omega
        have hb : n < 256 ^ widthN n := by
          have hwn : widthN n = 4 ∧ n < 4294967296 ∨ widthN n = 5 ∧ n < 1099511627776 ∨ widthN n = 6 ∧ n < 281474976710656 ∨ widthN n = 7 ∧ n < 72057594037927936 ∨ widthN n = 8 := by
            unfold widthN; (repeat' split) <;> omega
          rcases hwn with ⟨w, hn⟩ | ⟨w, hn⟩ | ⟨w, hn⟩ | ⟨w, hn⟩ | w <;> rw [w]
          · exact hn
          · exact hn
          · exact hn
          · exact hn
          · rw [pow_256_8]; omega
        refine key _ _ e (by rw [hc, es]) ?_
        unfold valAt
        rw [if_pos (by omega), hc, htake _ es, e, List.drop_one, List.tail_cons, valB_lowB _ n h0 hb]
        exact wrap_in h0 (by omega)

/-! ### what is told was put -/
theorem takeN_tells {l : List Int} (hl : IsBytes l) {n : Int} {s : Nat} (h : takeN l = some (n, s)) : 0 ≤ n ∧ n ≤ 4611686018427387904 ∧ s = sizeN n ∧ s ≤ l.length ∧ l.take s = numB n := by
  cases l with
  | nil => cases h
  | cons c r =>
    have hc := hl c (by simp)
    change takeAt c (c :: r) = some (n, s) at h
    unfold takeAt at h
    by_cases ha : 9 < headSize c ∨ (c :: r).length < headSize c
    · rw [if_pos ha] at h; cases h
    · rw [if_neg ha] at h
      by_cases hb : valAt c (c :: r) < 0 ∨ 4611686018427387904 < valAt c (c :: r) ∨ sizeN (valAt c (c :: r)) ≠ headSize c
      · rw [if_pos hb] at h; cases h
      · rw [if_neg hb] at h
        injection h with h
        injection h with hn hs
        have q0 : 0 ≤ n := by omega
        have q1 : n ≤ 4611686018427387904 := by omega
        have hss : sizeN n = headSize c := by rw [← hn]; omega
        have hh := heldN_in q0 q1
        have hlen : s ≤ (c :: r).length := by omega
        refine ⟨q0, q1, by omega, hlen, ?_⟩
        have hw := widthN_range n
        have htl : ((c :: r).take s).length = s := by rw [List.length_take]; omega
        have hbt : IsBytes ((c :: r).take s) := hl.take s
        have hlow := lowB_valB _ hbt
        rw [htl] at hlow
        have hs1 : 1 ≤ s := by have := sizeN_range n; omega
        have hcons : (c :: r).take s = c :: r.take (s - 1) := by
          obtain ⟨q, rfl⟩ : ∃ q, s = q + 1 := ⟨s - 1, by omega⟩
          simp
        have hvm : valB ((c :: r).take s) = c + 256 * valB (r.take (s - 1)) := by rw [hcons]; rfl
        rw [hs] at hss
        unfold valAt at hn
        rw [hs] at hn
        unfold headSize at hs
        by_cases c0 : c % 4 = 0
        · rw [if_pos c0] at hs
          rw [if_neg (by omega)] at hn
          have hn1 : n < 64 := by
            unfold sizeN at hss; rw [hh, ← hs] at hss
            by_cases h1 : n < 64
            · exact h1
            · rw [if_neg h1] at hss; (repeat' split at hss) <;> omega
          unfold numB
          rw [hh, if_pos hn1, ← hlow, hvm, ← hs]
          rw [← hs] at hn hvm
          congr 1
          omega
        · rw [if_neg c0] at hs
          by_cases c1 : c % 4 = 1
          · rw [if_pos c1] at hs
            rw [if_neg (by omega)] at hn
            have hn1 : ¬ n < 64 ∧ n < 16384 := by
              unfold sizeN at hss; rw [hh, ← hs] at hss
              by_cases h1 : n < 64
              · rw [if_pos h1] at hss; omega
              · rw [if_neg h1] at hss
                by_cases h2 : n < 16384
                · exact ⟨h1, h2⟩
                · rw [if_neg h2] at hss; (repeat' split at hss) <;> omega
            unfold numB
            rw [hh, if_neg hn1.1, if_pos hn1.2, ← hlow, hvm, ← hs]
            rw [← hs] at hn hvm
            congr 1
            omega
          · rw [if_neg c1] at hs
            by_cases c2 : c % 4 = 2
            · rw [if_pos c2] at hs
              rw [if_neg (by omega)] at hn
              have hn1 : ¬ n < 64 ∧ ¬ n < 16384 ∧ n < 1073741824 := by
                unfold sizeN at hss; rw [hh, ← hs] at hss
                by_cases h1 : n < 64
                · rw [if_pos h1] at hss; omega
                · rw [if_neg h1] at hss
                  by_cases h2 : n < 16384
                  · rw [if_pos h2] at hss; omega
                  · rw [if_neg h2] at hss
                    by_cases h3 : n < 1073741824
                    · exact ⟨h1, h2, h3⟩
                    · rw [if_neg h3] at hss; omega
              unfold numB
              rw [hh, if_neg hn1.1, if_neg hn1.2.1, if_pos hn1.2.2, ← hlow, hvm, ← hs]
              rw [← hs] at hn hvm
              congr 1
              omega
            · rw [if_neg c2] at hs
              rw [if_pos (by omega), hcons, List.drop_one, List.tail_cons] at hn
              have hn1 : ¬ n < 64 ∧ ¬ n < 16384 ∧ ¬ n < 1073741824 := by
                unfold sizeN at hss; rw [hh] at hss
                by_cases h1 : n < 64
                · rw [if_pos h1] at hss; omega
                · rw [if_neg h1] at hss
                  by_cases h2 : n < 16384
                  · rw [if_pos h2] at hss; omega
                  · rw [if_neg h2] at hss
                    by_cases h3 : n < 1073741824
                    · rw [if_pos h3] at hss; omega
                    · exact ⟨h1, h2, h3⟩
              have hsw : s = 1 + widthN n := by
                unfold sizeN at hss; rw [hh, if_neg hn1.1, if_neg hn1.2.1, if_neg hn1.2.2] at hss; omega
              have hr : IsBytes (r.take (s - 1)) := fun x hx => hl x (List.mem_cons_of_mem _ (List.mem_of_mem_take hx))
              have hrl : (r.take (s - 1)).length = widthN n := by rw [List.length_take]; simp at hlen; omega
              have hb := valB_bound _ hr
              have hp : (256 : Int) ^ (r.take (s - 1)).length ≤ 18446744073709551616 := by
                rw [hrl]
                have hx : widthN n = 4 ∨ widthN n = 5 ∨ widthN n = 6 ∨ widthN n = 7 ∨ widthN n = 8 := by omega
                rcases hx with x | x | x | x | x <;> rw [x] <;> decide
              have hv : valB (r.take (s - 1)) = n := by
                have hx : valB (r.take (s - 1)) < 18446744073709551616 := Int.lt_of_lt_of_le hb.2 hp
                have hy := hb.1
                unfold wrap64 at hn
                omega
              have hlr := lowB_valB _ hr
              rw [hv, hrl] at hlr
              unfold numB
              rw [hh, if_neg hn1.1, if_neg hn1.2.1, if_neg hn1.2.2, hcons, hlr]
              congr 1
              omega

end Go.Proofs.Ytilckocpgififaa.PNum

/- compact.Take, plainly. -/
namespace Go.Proofs.Ytilckocpgififaa.PNum
open Go.RowKit Go.Proofs.Ytilckocpgififaa.G Go.Proofs.YtilckocpgififaaW.PrintWords Go.Proofs.YtilckocpgififaaW.PrintMore Go.Proofs.YtilckocpgififaaW.PrintLast
set_option linter.unusedVariables false
set_option linter.unusedSimpArgs false

theorem ctake_fin (k : Nat) (hk : 5 ≤ k) (v : Int) (x : Nat) :
    (if v < 0 then some ((0 : Int), (0 : Int), false) else if v > 4611686018427387904 then some (0, 0, false) else (compact_Size.f k v).bind fun t => if t = (x : Int) then some (v, (x : Int), true) else some (0, 0, false)) =
      some (outT (if v < 0 ∨ 4611686018427387904 < v ∨ sizeN v ≠ x then none else some (v, x))) := by
  by_cases h1 : v < 0
  · rw [if_pos h1, if_pos (Or.inl h1)]; rfl
  · rw [if_neg h1]
    by_cases h2 : 4611686018427387904 < v
    · rw [if_pos h2, if_pos (Or.inr (Or.inl h2))]; rfl
    · rw [if_neg h2, size_tells k v hk, Option.bind_some]
      by_cases h3 : sizeN v = x
      · rw [if_pos (by rw [h3]), if_neg (by simp [h1, h2, h3])]; rfl
      · rw [if_neg (by intro h; exact h3 (by omega)), if_pos (Or.inr (Or.inr h3))]; rfl

theorem small_val {l : List Int} (hl : IsBytes l) (s : Nat) (hs : s ≤ 4) : 0 ≤ valB (l.take s) ∧ valB (l.take s) < 4294967296 := by
  have hb := valB_bound _ (hl.take s)
  have hp : (256 : Int) ^ (l.take s).length ≤ 4294967296 := by
    have hx : (l.take s).length ≤ 4 := Nat.le_trans (List.length_take_le s _) hs
    generalize (l.take s).length = q at hx
    have hq : q = 0 ∨ q = 1 ∨ q = 2 ∨ q = 3 ∨ q = 4 := by omega
    rcases hq with x | x | x | x | x <;> rw [x] <;> decide
  exact ⟨hb.1, by have := hb.2; omega⟩

theorem ctake_tells (k : Nat) (l : List Int) (hl : IsBytes l) (hk : 10 ≤ k) : compact_Take.f k l = some (outT (takeN l)) := by
  cases l with
  | nil => rfl
  | cons c r =>
    have hc := hl c (by simp)
    have hr0 : rd (c :: r) 0 = c := rfl
    have t4 : Int.tmod c 4 = c % 4 := Int.tmod_eq_emod_of_nonneg hc.1
    have d4 : Int.tdiv c 4 = c / 4 := Int.tdiv_eq_ediv_of_nonneg hc.1
    have key : ∀ (s : Nat), 1 ≤ s → s ≤ 100 → s = headSize c → (c % 4 ≠ 3 → s ≤ 4) → compact_Take.j0 k (c :: r) s = some (outT (takeN (c :: r))) := by
      intro s h1 h2 h4 h5
      obtain ⟨k, rfl⟩ : ∃ q, k = q + 2 := ⟨k - 2, by omega⟩
      have hlen1 : (0 : Int) < (((c :: r).length : Nat) : Int) := by simp
      have s0 : (0 : Int) ≤ (s : Int) := by omega
      have s1 : (1 : Int) ≤ (s : Int) := by omega
      have stn : ((s : Int)).toNat = s := by omega
      show _ = some (outT (takeAt c (c :: r)))
      unfold takeAt
      rw [compact_Take.j0, ← h4]
      by_cases ha : 9 < s
      · rw [if_pos (by omega), compact_Take.j1, if_pos rfl, if_pos (Or.inl ha)]; rfl
      · rw [if_neg (by omega), compact_Take.j1]
        by_cases hb : (c :: r).length < s
        · rw [if_pos (by rw [decide_eq_true_eq]; omega), if_pos (Or.inr hb)]; rfl
        · have sl : (s : Int) ≤ (((c :: r).length : Nat) : Int) := by omega
          have hn : ¬ (9 < s ∨ (c :: r).length < s) := by omega
          have hd : ¬ (decide ((s : Int) > (((c :: r).length : Nat) : Int)) = true) := by rw [decide_eq_true_eq]; omega
          rw [if_neg hd, if_neg hn, if_pos hlen1, hr0, t4]
          by_cases c3 : c % 4 = 3
          · have hv : valAt c (c :: r) = wrap64 (valB (((c :: r).take s).drop 1)) := by unfold valAt; rw [if_pos c3, ← h4]
            rw [if_pos c3, if_pos s1, if_pos sl, stn, number_tells, Option.bind_some, hv]
            exact ctake_fin k (by omega) _ s
          · have hq := small_val hl s (h5 c3)
            have hw : wrap64 (valB ((c :: r).take s)) = valB ((c :: r).take s) := wrap_in hq.1 (by omega)
            have hd4 : Int.tdiv (valB ((c :: r).take s)) 4 = valB ((c :: r).take s) / 4 := Int.tdiv_eq_ediv_of_nonneg hq.1
            have hw4 : wrap64 (valB ((c :: r).take s) / 4) = valB ((c :: r).take s) / 4 := wrap_in (by omega) (by omega)
            have hv : valAt c (c :: r) = valB ((c :: r).take s) / 4 := by unfold valAt; rw [if_neg c3, ← h4]
            rw [if_neg c3, if_pos s0, if_pos sl, stn, number_tells, Option.bind_some, hv, hw, hd4, hw4]
            exact ctake_fin k (by omega) _ s
    have hlen0 : ¬ (((c :: r).length : Nat) : Int) = 0 := by simp; omega
    have hlen1 : (0 : Int) < (((c :: r).length : Nat) : Int) := by simp
    unfold compact_Take.f
    rw [if_neg hlen0, if_pos hlen1, hr0, t4, d4]
    by_cases c0 : c % 4 = 0
    · rw [if_pos c0]
      exact key 1 (by omega) (by omega) (by unfold headSize; rw [if_pos c0]) (by omega)
    · rw [if_neg c0]
      by_cases c1 : c % 4 = 1
      · rw [if_pos c1]
        exact key 2 (by omega) (by omega) (by unfold headSize; rw [if_neg c0, if_pos c1]) (by omega)
      · rw [if_neg c1]
        by_cases c2 : c % 4 = 2
        · rw [if_pos c2]
          exact key 4 (by omega) (by omega) (by unfold headSize; rw [if_neg c0, if_neg c1, if_pos c2]) (by omega)
        · rw [if_neg c2]
          have e : (5 : Int) + c / 4 % 256 = ((5 + (c / 4).toNat : Nat) : Int) := by omega
          rw [e]
          exact key (5 + (c / 4).toNat) (by omega) (by omega) (by unfold headSize; rw [if_neg c0, if_neg c1, if_neg c2]) (by omega)

end Go.Proofs.Ytilckocpgififaa.PNum

/- Rows, plainly (without what chapter 1 asks of them). -/
namespace Go.Proofs.Ytilckocpgififaa.PNum
open Go.RowKit Go.Proofs.Ytilckocpgififaa.G Go.Proofs.YtilckocpgififaaW.PrintWords Go.Proofs.YtilckocpgififaaW.PrintMore Go.Proofs.YtilckocpgififaaW.PrintLast
set_option linter.unusedVariables false
set_option linter.unusedSimpArgs false

def rowsSize (l : List (List Int)) : Nat := (l.map fun p => 1 + p.length).sum
theorem rowsSize_cons (p : List Int) (l : List (List Int)) : rowsSize (p :: l) = 1 + p.length + rowsSize l := by simp [rowsSize]
theorem rd_L (l : List (List Int)) (i : Nat) (h : i < l.length) : rd_L4 l (i : Int) = l[i] := by
  unfold rd_L4
  simp [List.getD_eq_getElem?_getD, h]
theorem length_le_rowsSize (l : List (List Int)) : l.length ≤ rowsSize l := by
  induction l with
  | nil => simp
  | cons p l ih => rw [rowsSize_cons, List.length_cons]; omega

def rowB (p : List Int) : List Int := numB (p.length : Int) ++ p
def rowsB (l : List (List Int)) : List Int := l.flatMap rowB
theorem rowsB_cons (p : List Int) (l : List (List Int)) : rowsB (p :: l) = rowB p ++ rowsB l := rfl
theorem rowB_length (p : List Int) : (rowB p).length = sizeN p.length + p.length := by unfold rowB; rw [List.length_append, numB_length]
theorem rowB_bytes {p : List Int} (h : IsBytes p) : IsBytes (rowB p) := (numB_bytes _).append h
theorem rowsB_bytes {l : List (List Int)} (h : ∀ p ∈ l, IsBytes p) : IsBytes (rowsB l) := by
  intro c hc
  obtain ⟨p, hp, hcp⟩ := List.mem_flatMap.1 hc
  exact rowB_bytes (h p hp) c hcp

theorem row_loop (ps : List (List Int)) (hps : rowsSize ps ≤ 1000000000) (d : Nat) : ∀ (k i : Nat) (b : List Int), i + d = ps.length → d + 11 ≤ k → b.length + 9 * rowsSize (ps.drop i) + 9 < 140737488355328 →
    compact_Row.l0 k b ps (ps.length : Int) i = some (b ++ rowsB (ps.drop i)) := by
  induction d with
  | zero =>
    intro k i b hi hk hl
    obtain ⟨k, rfl⟩ : ∃ q, k = q + 1 := ⟨k - 1, by omega⟩
    rw [compact_Row.l0, if_neg (by omega), List.drop_eq_nil_of_le (by omega)]
    simp [rowsB]
  | succ d ih =>
    intro k i b hi hk hl
    obtain ⟨k, rfl⟩ : ∃ q, k = q + 1 := ⟨k - 1, by omega⟩
    have hlt : i < ps.length := by omega
    have hll := length_le_rowsSize ps
    have e1 : wrap64 ((i : Int) + 1) = ((i + 1 : Nat) : Int) := by rw [wrap_in (by omega) (by omega)]; omega
    have hs := sizeN_range (ps[i].length : Int)
    have hz := numB_length (ps[i].length : Int)
    have hd := List.drop_eq_getElem_cons hlt
    rw [hd, rowsSize_cons] at hl
    have c1 : (i : Int) < (ps.length : Int) := by omega
    have c2 : (0 : Int) ≤ (i : Int) := by omega
    have c3 : (b ++ numB (ps[i].length : Int)).length + ps[i].length < 140737488355328 := by rw [List.length_append]; omega
    have hi' : i + 1 + d = ps.length := by omega
    have hk' : d + 11 ≤ k := by omega
    have hl' : (b ++ numB (ps[i].length : Int) ++ ps[i]).length + 9 * rowsSize (ps.drop (i + 1)) + 9 < 140737488355328 := by rw [List.length_append, List.length_append]; omega
    rw [compact_Row.l0, if_pos c1, if_pos c2, if_pos c1, rd_L ps i hlt, lays_tells k b _ (by omega) (by omega), Option.bind_some, if_pos c3, e1]
    rw [ih k (i + 1) _ hi' hk' hl', hd, rowsB_cons, rowB]
    simp
theorem row_tells (k : Nat) (b : List Int) (ps : List (List Int)) (hps : rowsSize ps ≤ 1000000000) (hk : ps.length + 11 ≤ k) (hb : b.length + 9 * rowsSize ps + 9 < 140737488355328) : compact_Row.f k b ps = some (b ++ rowsB ps) := by
  unfold compact_Row.f
  have hc : slices_Clone_byte_byte.f b = some b := by
    unfold slices_Clone_byte_byte.f
    rw [Option.bind_some, if_pos (by simp; omega)]; rfl
  rw [hc, Option.bind_some]
  exact row_loop ps hps ps.length k 0 b (by omega) hk (by simpa using hb)

/-! ### Cut -/
def cutN (b : List Int) : Option (List Int × Nat) :=
  match takeN b with
  | none => none
  | some (n, s) => if (b.length : Int) - s < n then none else some ((b.take (s + n.toNat)).drop s, s + n.toNat)
def outC : Option (List Int × Nat) → List Int × Int × Bool
  | none => ([], 0, false)
  | some (p, s) => (p, (s : Int), true)
theorem clone_tells (l : List Int) (h : l.length < 140737488355328) : slices_Clone_byte_byte.f l = some l := by
  unfold slices_Clone_byte_byte.f
  rw [Option.bind_some, if_pos (by simpa using h)]; rfl
theorem cut_tells (k : Nat) (b : List Int) (hb : IsBytes b) (hl : b.length < 140737488355328) (hk : 10 ≤ k) : compact_Cut.f k b = some (outC (cutN b)) := by
  unfold compact_Cut.f cutN
  rw [ctake_tells k b hb hk, Option.bind_some]
  cases e : takeN b with
  | none => rfl
  | some x =>
    obtain ⟨n, s⟩ := x
    obtain ⟨q0, q1, q2, q3, q4⟩ := takeN_tells hb e
    have hs := sizeN_range n
    rw [show outT (some (n, s)) = (n, (s : Int), true) from rfl]
    dsimp only
    have w1 : wrap64 ((b.length : Int) - (s : Int)) = (b.length : Int) - s := wrap_in (by omega) (by omega)
    have w2 : wrap64 ((s : Int) + n) = (s : Int) + n := wrap_in (by omega) (by omega)
    rw [if_pos rfl, w1, w2]
    by_cases h : n > (b.length : Int) - s
    · rw [if_pos h, if_pos (by omega)]; rfl
    · have c1 : (0 : Int) ≤ (s : Int) := by omega
      have c2 : (s : Int) ≤ (s : Int) + n := by omega
      have c3 : (s : Int) + n ≤ (b.length : Int) := by omega
      have t1 : ((s : Int) + n).toNat = s + n.toNat := by omega
      have t2 : ((s : Int)).toNat = s := by omega
      have hc : ((b.take (s + n.toNat)).drop s).length < 140737488355328 := by rw [List.length_drop, List.length_take]; omega
      have hneg : ¬ ((b.length : Int) - s < n) := by omega
      rw [if_neg h, if_pos c1, if_pos c2, if_pos c3, t1, t2, clone_tells _ hc, Option.bind_some, if_neg hneg]
      show some (_, _, true) = some (_, _, true)
      congr 3
      omega

end Go.Proofs.Ytilckocpgififaa.PNum

/- What the readers of both sides share: bytes that are left, a number, a row taken off them, plainly; worlds that are kept but for some blocks. -/
namespace Go.Proofs.Ytilckocpgififaa.G
open Go.RowKit Go.Shelf Go.Proofs.YtilckocpgififaaW.PrintWords Go.Proofs.YtilckocpgififaaW.PrintMore Go.Proofs.Ytilckocpgififaa.PNum
set_option linter.unusedVariables false
set_option linter.unusedSimpArgs false

theorem cut_tail (t e : TypeId) {P : Program} {i : TypeInfo} (ht : P.underlying t = some (.slice e)) (hi : P.info? e = some i) (hsz : i.size = 1) (A : Option Addr) (c : Nat) (xs : List Int) (j : Nat) (hm : j ≤ xs.length) (hc : xs.length ≤ c) :
    ∃ A' : Option Addr, (∀ W : World, (Instr.slice t (.slice A xs.length c) (some (.int .i64 (j : Int))) none none).run P W = .ok (.slice A' (xs.length - j) (c - j)) W) ∧
      (∀ (k : IntKind) (w : World), Kd.C (Kd.int k) w A xs.length xs → Kd.C (Kd.int k) w A' (xs.drop j).length (xs.drop j)) ∧ xs.length - j ≤ c - j ∧ (∀ ad', A' = some ad' → ∃ ad, A = some ad ∧ ad'.block = ad.block) := by
  refine ⟨if c = j then A else A.map (·.add (j * 1)), fun W => ?_, fun k w h => Kd.C_drop h hm hc, by omega, ?_⟩
  · exact cut_from (P := P) t e .i64 ht hi 1 hsz A xs.length c (j : Int) (by omega) (by omega) W
  · intro ad' e'
    by_cases h : c = j
    · rw [if_pos h] at e'; exact ⟨ad', e', rfl⟩
    · rw [if_neg h] at e'
      cases A with
      | none => cases e'
      | some ad => simp at e'; subst e'; exact ⟨ad, rfl, addr_block _ _⟩
/-- A row that is read stands where its block does. -/
theorem C_stays {k : IntKind} {W W' : World} {A : Option Addr} {n : Nat} {xs : List Int} (h : Kd.C (Kd.int k) W A n xs) (hb : ∀ ad, A = some ad → 0 < n → W'.heap[ad.block]? = W.heap[ad.block]?) : Kd.C (Kd.int k) W' A n xs := by
  refine ⟨h.1, h.2.1, fun h0 => ?_⟩
  obtain ⟨ad, e, hc⟩ := h.2.2 h0
  refine ⟨ad, e, fun j p hj => ?_⟩
  obtain ⟨c, hl, hr, hcell⟩ := hc j p hj
  refine ⟨c, hl, hr, fun i u hu => ?_⟩
  have hq := World.cell?_of_block (w := W) (w' := W') (a := ad.add (j * (Kd.int k).sz + i)) (by rw [addr_block]; exact hb ad e h0)
  rw [hq]; exact hcell i u hu

/-! ### worlds that are kept but for some blocks -/
structure Kept (bad : Nat → Prop) (w w' : World) : Prop where
  os : w'.os = w.os
  tape : w'.tape = w.tape
  output : w'.output = w.output
  size : w.heap.size ≤ w'.heap.size
  block : ∀ k, k < w.heap.size → ¬ bad k → w'.heap[k]? = w.heap[k]?
theorem Kept.refl (bad : Nat → Prop) (w : World) : Kept bad w w := ⟨rfl, rfl, rfl, Nat.le_refl _, fun _ _ _ => rfl⟩
theorem Kept.below {bad : Nat → Prop} {w w' w'' : World} (h : Kept bad w w') (k : Below w'.heap.size w' w'') : Kept bad w w'' :=
  ⟨k.os.trans h.os, k.tape.trans h.tape, k.output.trans h.output, Nat.le_trans h.size k.size, fun b hb hne => (k.block b (Nat.lt_of_lt_of_le hb h.size)).trans (h.block b hb hne)⟩
theorem Kept.step {bad : Nat → Prop} {w w' w'' : World} (h : Kept bad w w') (k : Kept bad w' w'') : Kept bad w w'' :=
  ⟨k.os.trans h.os, k.tape.trans h.tape, k.output.trans h.output, Nat.le_trans h.size k.size, fun b hb hne => (k.block b (Nat.lt_of_lt_of_le hb h.size) hne).trans (h.block b hb hne)⟩
theorem Kept.mono {bad bad' : Nat → Prop} {w w' : World} (h : Kept bad w w') (hb : ∀ k, bad k → bad' k) : Kept bad' w w' := ⟨h.os, h.tape, h.output, h.size, fun k hk hne => h.block k hk (fun q => hne (hb k q))⟩
theorem Kept.set {bad : Nat → Prop} {w w' : World} (h : Kept bad w w') {g : Nat} (hg : bad g) (i : Nat) (v : Value) : Kept bad w (w'.setCell ⟨g, i, none⟩ v) :=
  ⟨h.os, h.tape, h.output, by rw [World.size_setCell]; exact h.size, fun k hk hne => (Below.heap_setCell w' ⟨g, i, none⟩ v k (fun e => hne (by rw [show k = g from e]; exact hg))).trans (h.block k hk hne)⟩
theorem Kept.drew {bad : Nat → Prop} {w w' : World} (h : Kept bad w w') : Kept bad w w'.drew := ⟨h.os, h.tape, h.output, h.size, h.block⟩
/-- Where only later blocks are turned: as it was, below. -/
theorem Kept.to_below {bad : Nat → Prop} {B : Nat} {w0 w w' : World} (h : Kept bad w w') (hb : Below B w0 w) (hB : B ≤ w.heap.size) (hn : ∀ k, bad k → B ≤ k) : Below B w0 w' :=
  ⟨h.os.trans hb.os, h.tape.trans hb.tape, h.output.trans hb.output, Nat.le_trans hb.size h.size, fun k hk => (h.block k (Nat.lt_of_lt_of_le hk hB) (fun q => by have := hn k q; omega)).trans (hb.block k hk)⟩
theorem Lies.kept {bad : Nat → Prop} {w w' : World} {g : Nat} {L : List Value} (h : Lies w g L) (hk : Kept bad w w') (h0 : 0 < L.length) (hg : ¬ bad g) : Lies w' g L := h.of_block (hk.block g (h.lt h0) hg)

/-! ### numbers off bytes -/
def numT (l : List Int) : Int × Nat × Bool := match takeN l with
  | some (v, s) => (v, s, true)
  | none => (0, 0, false)
theorem numT_out (l : List Int) : outT (takeN l) = ((numT l).1, ((numT l).2.1 : Int), (numT l).2.2) := by
  unfold numT
  cases takeN l <;> rfl
theorem numT_size {l : List Int} (hl : IsBytes l) : (numT l).2.1 ≤ l.length := by
  unfold numT
  cases h : takeN l with
  | none => exact Nat.zero_le _
  | some q => obtain ⟨v, s⟩ := q; exact (takeN_tells hl h).2.2.2.1
theorem numT_range {l : List Int} (hl : IsBytes l) : 0 ≤ (numT l).1 ∧ (numT l).1 ≤ 4611686018427387904 := by
  unfold numT
  cases h : takeN l with
  | none => exact ⟨Int.le_refl _, by decide⟩
  | some q => obtain ⟨v, s⟩ := q; exact ⟨(takeN_tells hl h).1, (takeN_tells hl h).2.1⟩
/-- A row off bytes. -/
def rowT (l : List Int) : List Int × Nat × Bool := match cutN l with
  | some (p, s) => (p, s, true)
  | none => ([], 0, false)
theorem rowT_out (l : List Int) : outC (cutN l) = ((rowT l).1, ((rowT l).2.1 : Int), (rowT l).2.2) := by
  unfold rowT
  cases cutN l <;> rfl
theorem rowT_size {l : List Int} (hl : IsBytes l) : (rowT l).2.1 ≤ l.length ∧ (rowT l).1.length ≤ l.length ∧ IsBytes (rowT l).1 := by
  unfold rowT cutN
  cases h : takeN l with
  | none => exact ⟨Nat.zero_le _, Nat.zero_le _, fun c hc => by cases hc⟩
  | some q =>
    obtain ⟨v, s⟩ := q
    have ht := takeN_tells hl h
    by_cases hlt : (l.length : Int) - s < v
    · simp only [if_pos hlt]; exact ⟨Nat.zero_le _, Nat.zero_le _, fun c hc => by cases hc⟩
    · simp only [if_neg hlt]
      refine ⟨by omega, by rw [List.length_drop, List.length_take]; omega, (hl.take _).drop _⟩

/-! ### a reader in memory -/
/-- A reader's block: what is left (in a block below B), and whether all was there; two blocks into which numbers are taken. -/
structure ReadAt (B : Nat) (w : World) (R g1 g2 : Nat) (A : Option Addr) (c : Nat) (l : List Int) (ok : Bool) (L1 L2 : List Value) : Prop where
  reader : Lies w R [.slice A l.length c, .bool ok]
  cap : l.length ≤ c
  row : Kd.C (Kd.int .u8) w A l.length l
  far : ∀ ad, A = some ad → 0 < l.length → ad.block < B
  bytes : IsBytes l
  short : l.length < 140737488355328
  one : Lies w g1 L1
  two : Lies w g2 L2
  atR : B ≤ R
  at1 : B ≤ g1
  at2 : B ≤ g2
  r1 : g1 ≠ R
  r2 : g2 ≠ R
  g12 : g1 ≠ g2
  p1 : 0 < L1.length
  p2 : 0 < L2.length
section
variable {B : Nat} {w w' : World} {R g1 g2 : Nat} {A A' : Option Addr} {c c' : Nat} {l l' : List Int} {ok : Bool} {L1 L2 : List Value}
theorem ReadAt.below (h : ReadAt B w R g1 g2 A c l ok L1 L2) (hb : Below w.heap.size w w') : ReadAt B w' R g1 g2 A c l ok L1 L2 :=
  { h with reader := h.reader.below hb (h.reader.lt (by simp)), row := Kd.C_below h.row hb, one := h.one.below hb (h.one.lt h.p1), two := h.two.below hb (h.two.lt h.p2) }
theorem ReadAt.drew (h : ReadAt B w R g1 g2 A c l ok L1 L2) : ReadAt B w.drew R g1 g2 A c l ok L1 L2 :=
  { h with reader := h.reader.drew, row := Kd.C_drew h.row, one := h.one.drew, two := h.two.drew }
theorem ReadAt.swap (h : ReadAt B w R g1 g2 A c l ok L1 L2) : ReadAt B w R g2 g1 A c l ok L2 L1 :=
  { h with one := h.two, two := h.one, at1 := h.at2, at2 := h.at1, r1 := h.r2, r2 := h.r1, g12 := h.g12.symm, p1 := h.p2, p2 := h.p1 }
theorem ReadAt.row_set (h : ReadAt B w R g1 g2 A c l ok L1 L2) {g : Nat} (hg : B ≤ g) (i : Nat) (v : Value) : Kd.C (Kd.int .u8) (w.setCell ⟨g, i, none⟩ v) A l.length l :=
  C_stays h.row (fun ad e hn => Below.heap_setCell w ⟨g, i, none⟩ _ _ (fun q => by have := h.far ad e hn; have q' : ad.block = g := q; omega))
/-- Whether all was there is turned. -/
theorem ReadAt.setOk (h : ReadAt B w R g1 g2 A c l ok L1 L2) (b : Bool) : ReadAt B (w.setCell ⟨R, 1, none⟩ (.bool b)) R g1 g2 A c l b L1 L2 :=
  { h with reader := h.reader.set 1 (by simp) _, row := h.row_set h.atR _ _, one := h.one.set_far h.r1 _ _, two := h.two.set_far h.r2 _ _ }
/-- What is left is turned. -/
theorem ReadAt.setRest (h : ReadAt B w R g1 g2 A c l ok L1 L2) (hc : l'.length ≤ c') (hr : Kd.C (Kd.int .u8) w A' l'.length l') (hl : IsBytes l') (hs : l'.length < 140737488355328)
    (hA : ∀ ad', A' = some ad' → 0 < l'.length → ad'.block < B) : ReadAt B (w.setCell ⟨R, 0, none⟩ (.slice A' l'.length c')) R g1 g2 A' c' l' ok L1 L2 :=
  { h with reader := h.reader.set 0 (by simp) _, cap := hc, row := C_stays hr (fun ad e hn => Below.heap_setCell w ⟨R, 0, none⟩ _ _ (fun q => by have := hA ad e hn; have := h.atR; have q' : ad.block = R := q; omega)), far := hA, bytes := hl, short := hs, one := h.one.set_far h.r1 _ _, two := h.two.set_far h.r2 _ _ }
/-- A number is laid into the first block. -/
theorem ReadAt.setOne (h : ReadAt B w R g1 g2 A c l ok L1 L2) (o : Nat) (ho : o < L1.length) (v : Value) : ReadAt B (w.setCell ⟨g1, o, none⟩ v) R g1 g2 A c l ok (L1.set o v) L2 :=
  { h with reader := h.reader.set_far h.r1.symm _ _, row := h.row_set h.at1 _ _, one := h.one.set o ho v, two := h.two.set_far h.g12.symm _ _, p1 := by rw [List.length_set]; exact h.p1 }
theorem ReadAt.kept {bad : Nat → Prop} (h : ReadAt B w R g1 g2 A c l ok L1 L2) (hk : Kept bad w w') (hb : ∀ k, bad k → B ≤ k) (hR : ¬ bad R) (h1 : ¬ bad g1) (h2 : ¬ bad g2) : ReadAt B w' R g1 g2 A c l ok L1 L2 :=
  { h with reader := h.reader.kept hk (by simp) hR, row := C_stays h.row (fun ad e hn => hk.block _ (by subst e; exact Kd.C_lt h.row hn (by decide)) (fun q => by have := hb _ q; have := h.far ad e hn; omega)), one := h.one.kept hk h.p1 h1, two := h.two.kept hk h.p2 h2 }
end
/-- Numbers off bytes, laid into two blocks. -/
def numsW : List (Bool × Nat) → List Int → Bool → List Value → List Value → List Int × Bool × List Value × List Value
  | [], l, ok, L1, L2 => (l, ok, L1, L2)
  | (b, o) :: ps, l, ok, L1, L2 => numsW ps (l.drop (numT l).2.1) (ok && (numT l).2.2) (if b = true then L1.set o (.int .i64 (numT l).1) else L1) (if b = true then L2 else L2.set o (.int .i64 (numT l).1))
end Go.Proofs.Ytilckocpgififaa.G

/- Calls as bytes, plainly: what code.call, code.EncodeCall and the reference's call compute; how large a call is told. -/
namespace Go.Proofs.Ytilckocpgififaa.PNum
open Go.RowKit Go.Proofs.Ytilckocpgififaa.G Go.Proofs.YtilckocpgififaaW.PrintWords Go.Proofs.YtilckocpgififaaW.PrintMore Go.Proofs.YtilckocpgififaaW.PrintLast
set_option linter.unusedVariables false
set_option linter.unusedSimpArgs false

/-- A call's bytes, so many batches within one another at most. -/
def encC : Nat → S25 → List Int
  | 0, c => numsB [c.f0, c.f1, c.f2, (c.f3.length : Int)]
  | f + 1, c => numsB [c.f0, c.f1, c.f2, (c.f3.length : Int)] ++ rowsB (c.f3.map (encC f))
def mostC : Nat → Nat
  | 0 => 36
  | f + 1 => 36 + 4 * (9 + mostC f)

theorem okT_kids {f : Nat} {c : S25} (h : okT (f + 1) c = true) : c.f3.length ≤ 4 ∧ ∀ x ∈ c.f3, okT f x = true := by
  unfold okT okC at h
  by_cases h5 : c.f0 = 5
  · rw [if_pos h5] at h
    simp only [Bool.and_eq_true, decide_eq_true_eq, List.all_eq_true] at h
    exact ⟨h.1.2.2, h.2⟩
  · rw [if_neg h5] at h
    have h0 : c.f3.length = 0 := by
      unfold leafOk at h
      split at h
      · simp only [Bool.and_eq_true, decide_eq_true_eq] at h; exact h.1.1
      · split at h
        · simp only [Bool.and_eq_true, decide_eq_true_eq] at h; exact h.1.1
        · split at h
          · simp only [Bool.and_eq_true, decide_eq_true_eq] at h; exact h.1.1
          · cases h
    have e := List.eq_nil_of_length_eq_zero h0
    rw [e]
    exact ⟨by simp, fun x hx => by cases hx⟩
theorem okT_leaf {c : S25} (h : okT 0 c = true) : c.f3 = [] := by
  unfold okT okC leafOk at h
  apply List.eq_nil_of_length_eq_zero
  split at h
  · simp only [Bool.and_eq_true, decide_eq_true_eq] at h; exact h.1.1
  · split at h
    · simp only [Bool.and_eq_true, decide_eq_true_eq] at h; exact h.1.1
    · split at h
      · simp only [Bool.and_eq_true, decide_eq_true_eq] at h; exact h.1.1
      · cases h
theorem rowsB_most (m : Nat) (l : List (List Int)) (h : ∀ x ∈ l, x.length ≤ m) : (rowsB l).length ≤ l.length * (9 + m) := by
  induction l with
  | nil => simp [rowsB]
  | cons p l ih =>
    have h1 := h p (by simp)
    have h2 := ih (fun x hx => h x (by simp [hx]))
    have h3 := sizeN_range (p.length : Int)
    rw [rowsB_cons, List.length_append, rowB_length, List.length_cons, Nat.add_mul]
    omega
theorem encC_most : ∀ (f : Nat) (c : S25), okT f c = true → (encC f c).length ≤ mostC f
  | 0, c, h => by have := numsB_length [c.f0, c.f1, c.f2, (c.f3.length : Int)]; simp only [encC, mostC, List.length_cons, List.length_nil] at *; omega
  | f + 1, c, h => by
    obtain ⟨h4, hk⟩ := okT_kids h
    have h1 := numsB_length [c.f0, c.f1, c.f2, (c.f3.length : Int)]
    have h2 := rowsB_most (mostC f) (c.f3.map (encC f)) (by
      intro x hx
      obtain ⟨y, hy, rfl⟩ := List.mem_map.1 hx
      exact encC_most f y (hk y hy))
    have h3 := Nat.mul_le_mul_right (9 + mostC f) h4
    rw [List.length_map] at h2
    simp only [encC, mostC, List.length_append, List.length_cons, List.length_nil] at *
    omega
theorem mostC_small {f : Nat} (h : f ≤ 3) : mostC f ≤ 3816 := by
  match f, h with
  | 0, _ => decide
  | 1, _ => decide
  | 2, _ => decide
  | 3, _ => decide
theorem encC_bytes : ∀ (f : Nat) (c : S25), IsBytes (encC f c)
  | 0, c => numsB_bytes _
  | f + 1, c => (numsB_bytes _).append (rowsB_bytes (by
      intro p hp
      obtain ⟨y, _, rfl⟩ := List.mem_map.1 hp
      exact encC_bytes f y))
theorem rd_natT (l : List S25) (i : Nat) (h : i < l.length) : rd_T25 l (i : Int) = l[i] := rd_T l i h

theorem call_loop (f : Nat) (hf : f ≤ 3) (l : List S25) (h4 : l.length ≤ 4) (N : Nat) (hN : 12 ≤ N) (ih : ∀ x ∈ l, okT f x = true → ∀ k, N ≤ k → code_call.f k x.f0 x.f1 x.f2 x.f3 = some (encC f x)) (hok : ∀ x ∈ l, okT f x = true) (d : Nat) :
    ∀ (k i : Nat) (b : List Int), i + d = l.length → d + N < k → b.length + 4000 * d < 1000000 → code_call.l0 k b l (l.length : Int) i = some (b ++ rowsB ((l.drop i).map (encC f))) := by
  induction d with
  | zero =>
    intro k i b hi hk hb
    obtain ⟨k, rfl⟩ : ∃ q, k = q + 1 := ⟨k - 1, by omega⟩
    rw [code_call.l0, if_neg (by omega), List.drop_eq_nil_of_le (by omega)]
    simp [rowsB]
  | succ d ihd =>
    intro k i b hi hk hb
    obtain ⟨k, rfl⟩ : ∃ q, k = q + 1 := ⟨k - 1, by omega⟩
    have hlt : i < l.length := by omega
    have e1 : wrap64 ((i : Int) + 1) = ((i + 1 : Nat) : Int) := by rw [wrap_in (by omega) (by omega)]; omega
    have c1 : (i : Int) < (l.length : Int) := by omega
    have c2 : (0 : Int) ≤ (i : Int) := by omega
    have hm := List.getElem_mem hlt
    have hlen := encC_most f _ (hok _ hm)
    have hsm := mostC_small hf
    have hsz : rowsSize [encC f l[i]] = 1 + (encC f l[i]).length := by simp [rowsSize]
    have hbs := sizeN_range ((encC f l[i]).length : Int)
    have hr := row_tells k b [encC f l[i]] (by omega) (by simp; omega) (by omega)
    have hrl : (rowsB [encC f l[i]]).length ≤ 9 + mostC f := by rw [rowsB_cons, List.length_append, rowB_length]; simp only [rowsB, List.flatMap_nil, List.length_nil]; omega
    rw [code_call.l0, if_pos c1, if_pos c2, if_pos c1, rd_natT l i hlt, ih _ hm (hok _ hm) k (by omega), Option.bind_some, hr, Option.bind_some, e1]
    rw [ihd k (i + 1) _ (by omega) (by omega) (by rw [List.length_append]; omega), List.drop_eq_getElem_cons hlt, List.map_cons, rowsB_cons, List.append_assoc]
    simp [rowsB]
def needC (f : Nat) : Nat := 20 + 10 * f
theorem call_tells : ∀ (f : Nat) (hf : f ≤ 3) (c : S25), okT f c = true → ∀ k, needC f ≤ k → code_call.f k c.f0 c.f1 c.f2 c.f3 = some (encC f c) := by
  intro f
  induction f with
  | zero =>
    intro hf c h k hk
    unfold needC at hk
    obtain ⟨k, rfl⟩ : ∃ q, k = q + 2 := ⟨k - 2, by omega⟩
    have hp := put_tells (k + 1) [] [c.f0, c.f1, c.f2, (c.f3.length : Int)] (by simp) (by simp; omega) (by simp)
    have e := okT_leaf h
    rw [code_call.f, hp, Option.bind_some, code_call.l0]
    rw [if_neg (by rw [e]; simp)]
    simp [encC]
  | succ f ih =>
    intro hf c h k hk
    obtain ⟨h4, hok⟩ := okT_kids h
    have hk' : needC f + 10 ≤ k := by unfold needC at *; omega
    have hN : 12 ≤ needC f := by unfold needC; omega
    obtain ⟨k, rfl⟩ : ∃ q, k = q + 1 := ⟨k - 1, by omega⟩
    have hp := put_tells k [] [c.f0, c.f1, c.f2, (c.f3.length : Int)] (by simp) (by simp; omega) (by simp)
    have hl := numsB_length [c.f0, c.f1, c.f2, (c.f3.length : Int)]
    simp only [List.length_cons, List.length_nil] at hl
    rw [code_call.f, hp, Option.bind_some, List.nil_append]
    rw [show (0 : Int) = ((0 : Nat) : Int) from rfl]
    rw [call_loop f (by omega) c.f3 h4 (needC f) hN (fun x hx hx' q hq => ih (by omega) x hx' q hq) hok c.f3.length k 0 _ (by omega) (by omega) (by omega)]
    simp [encC]
theorem isCall_tells (c : S25) : code_IsCall.f c.f0 c.f1 c.f2 c.f3 = some (okT 3 c) := by
  unfold code_IsCall.f code_isCall.f
  rw [if_pos rfl]; rfl
theorem encode_tells (c : S25) (k : Nat) (hk : 50 ≤ k) : code_EncodeCall.f k c.f0 c.f1 c.f2 c.f3 = some (if okT 3 c then (encC 3 c, 0) else ([], 1)) := by
  unfold code_EncodeCall.f
  rw [isCall_tells, Option.bind_some]
  by_cases h : okT 3 c = true
  · rw [if_pos h, if_pos h, call_tells 3 (by omega) c h k (by unfold needC; omega)]; rfl
  · rw [if_neg h, if_neg h]

/-! ### the reference's call -/
theorem rin_tells (a b c : Int) : althingref7_in.f a b c = some (decide (b ≤ a ∧ a ≤ c)) := by
  unfold althingref7_in.f
  by_cases h : a ≥ b
  · rw [if_pos h]; congr 1; simp; omega
  · rw [if_neg h]; congr 1; symm; exact decide_eq_false (by omega)
theorem rcall_loop (f : Nat) (l : List S25) (h4 : l.length ≤ 4) (dp : Int) (hd : 0 ≤ dp ∧ dp ≤ 10) (k0 k1 k2 : Int) (N : Nat) (ih : ∀ x ∈ l, ∀ k, N ≤ k → althingref7_call.f k x.f0 x.f1 x.f2 x.f3 (dp + 1) = some (okT f x)) (d : Nat) :
    ∀ (k i : Nat), i + d = l.length → d + N < k → althingref7_call.l0 k dp i k0 k1 k2 l = some ((l.drop i).all (okT f)) := by
  induction d with
  | zero =>
    intro k i hi hk
    obtain ⟨k, rfl⟩ : ∃ q, k = q + 1 := ⟨k - 1, by omega⟩
    rw [althingref7_call.l0, if_neg (by omega), List.drop_eq_nil_of_le (by omega)]
    rfl
  | succ d ihd =>
    intro k i hi hk
    obtain ⟨k, rfl⟩ : ∃ q, k = q + 1 := ⟨k - 1, by omega⟩
    have hlt : i < l.length := by omega
    have e1 : wrap64 ((i : Int) + 1) = ((i + 1 : Nat) : Int) := by rw [wrap_in (by omega) (by omega)]; omega
    have e2 : wrap64 (dp + 1) = dp + 1 := wrap_in (by omega) (by omega)
    have c1 : (i : Int) < (l.length : Int) := by omega
    have c2 : (0 : Int) ≤ (i : Int) := by omega
    have hm := List.getElem_mem hlt
    rw [althingref7_call.l0, if_pos c1, if_pos c2, rd_natT l i hlt, e2, ih _ hm k (by omega), Option.bind_some, e1, List.drop_eq_getElem_cons hlt, List.all_cons]
    by_cases h : okT f l[i] = true
    · rw [if_pos h, ihd k (i + 1) (by omega) (by omega), h]; rfl
    · rw [if_neg h, Bool.eq_false_iff.2 h]; rfl
theorem rcall_tells : ∀ (f : Nat) (dp : Int), dp + f = 3 → 0 ≤ dp → ∀ (c : S25) (k : Nat), 10 + 10 * f ≤ k → althingref7_call.f k c.f0 c.f1 c.f2 c.f3 dp = some (okT f c) := by
  intro f
  induction f with
  | zero =>
    intro dp hd h0 c k hk
    obtain ⟨k, rfl⟩ : ∃ q, k = q + 5 := ⟨k - 5, by omega⟩
    have hdp : dp = 3 := by omega
    subst hdp
    unfold okT okC leafOk
    by_cases h5 : c.f0 = 5
    · simp only [althingref7_call.f, althingref7_call.j0, althingref7_call.j1, althingref7_call.j2, rin_tells, h5, Option.bind_some]
      simp
    · by_cases h0 : c.f3.length = 0
      · by_cases h1 : c.f0 = 1
        · simp only [althingref7_call.f, althingref7_call.j0, althingref7_call.j1, althingref7_call.j2, rin_tells, h1, h0, Option.bind_some]
          by_cases t : c.f1 = 0 <;> simp [t]
        · by_cases h2 : c.f0 = 2
          · simp only [althingref7_call.f, althingref7_call.j0, althingref7_call.j1, althingref7_call.j2, rin_tells, h2, h0, Option.bind_some]
            by_cases t : 0 ≤ c.f1 ∧ c.f1 ≤ 9 <;> simp [t]
          · by_cases h3 : c.f0 = 3
            · simp only [althingref7_call.f, althingref7_call.j0, althingref7_call.j1, althingref7_call.j2, rin_tells, h3, h0, Option.bind_some]
              by_cases t : c.f1 = 0 <;> simp [t]
            · by_cases h4 : c.f0 = 4
              · simp only [althingref7_call.f, althingref7_call.j0, althingref7_call.j1, althingref7_call.j2, rin_tells, h4, h0, Option.bind_some]
                by_cases t : c.f1 = 0 <;> simp [t]
              · simp only [althingref7_call.f, althingref7_call.j0, althingref7_call.j1, althingref7_call.j2, rin_tells, h5, h1, h2, h3, h4, h0, Option.bind_some]
                by_cases t : c.f1 = 0 <;> simp [t, h3, h4]
      · have hp : (c.f3.length : Int) > 0 := by omega
        rw [althingref7_call.f, if_neg h5, if_pos hp, althingref7_call.j0, if_pos rfl]
        congr 1
        simp [h0]
  | succ f ih =>
    intro dp hd h0 c k hk
    have e2 : wrap64 (dp + 1) = dp + 1 := wrap_in (by omega) (by omega)
    by_cases h5 : c.f0 = 5
    · obtain ⟨k, rfl⟩ : ∃ q, k = q + 4 := ⟨k - 4, by omega⟩
      unfold okT okC
      rw [if_pos h5]
      have hdd : ¬ dp ≥ 3 := by omega
      have hi := fun h4 => rcall_loop f c.f3 h4 dp (by omega) c.f0 c.f1 c.f2 (10 + 10 * f) (fun x _ q hq => ih (dp + 1) (by omega) (by omega) x q hq) c.f3.length k 0 (by omega) (by omega)
      rw [show ((0 : Nat) : Int) = 0 from rfl, List.drop_zero] at hi
      rw [althingref7_call.f, if_pos h5, if_neg (by omega), althingref7_call.j0]
      by_cases t : c.f1 = 0
      · have t1 : (c.f1 != 0) = false := by simp [t]
        rw [t1, if_neg (by simp), if_neg (by omega), if_neg (by omega), if_neg (by omega), althingref7_call.j1, if_neg (by simp; omega), if_pos h5]
        by_cases n : c.f2 = 0
        · rw [if_pos n, rin_tells, Option.bind_some]
          by_cases l4 : c.f3.length ≤ 4 ∧ 1 ≤ c.f3.length
          · rw [if_pos (decide_eq_true (by omega)), althingref7_call.j2, if_neg (by simp; omega), hi (by omega)]
            simp [t, n, l4]
          · rw [if_neg (by simp; omega), althingref7_call.j2, if_pos rfl]
            congr 1; symm
            have : decide (1 ≤ c.f3.length ∧ c.f3.length ≤ 4) = false := decide_eq_false (by omega)
            simp only [this, Bool.and_false, Bool.false_and]
        · rw [if_neg n, althingref7_call.j2, if_pos rfl]; simp [n]
      · have t1 : (c.f1 != 0) = true := by simp [t]
        rw [t1, if_pos rfl]; simp [t]
    · have hleaf : althingref7_call.f k c.f0 c.f1 c.f2 c.f3 dp = some (leafOk c.f0 c.f1 c.f2 c.f3) := by
        obtain ⟨k, rfl⟩ : ∃ q, k = q + 5 := ⟨k - 5, by omega⟩
        unfold leafOk
        by_cases h0 : c.f3.length = 0
        · by_cases h1 : c.f0 = 1
          · simp only [althingref7_call.f, althingref7_call.j0, althingref7_call.j1, althingref7_call.j2, rin_tells, h1, h0, Option.bind_some]
            by_cases t : c.f1 = 0 <;> simp [t]
          · by_cases h2 : c.f0 = 2
            · simp only [althingref7_call.f, althingref7_call.j0, althingref7_call.j1, althingref7_call.j2, rin_tells, h2, h0, Option.bind_some]
              by_cases t : 0 ≤ c.f1 ∧ c.f1 ≤ 9 <;> simp [t]
            · by_cases h3 : c.f0 = 3
              · simp only [althingref7_call.f, althingref7_call.j0, althingref7_call.j1, althingref7_call.j2, rin_tells, h3, h0, Option.bind_some]
                by_cases t : c.f1 = 0 <;> simp [t]
              · by_cases h4 : c.f0 = 4
                · simp only [althingref7_call.f, althingref7_call.j0, althingref7_call.j1, althingref7_call.j2, rin_tells, h4, h0, Option.bind_some]
                  by_cases t : c.f1 = 0 <;> simp [t]
                · simp only [althingref7_call.f, althingref7_call.j0, althingref7_call.j1, althingref7_call.j2, rin_tells, h5, h1, h2, h3, h4, h0, Option.bind_some]
                  by_cases t : c.f1 = 0 <;> simp [t, h3, h4]
        · have hp : (c.f3.length : Int) > 0 := by omega
          rw [althingref7_call.f, if_neg h5, if_pos hp, althingref7_call.j0, if_pos rfl]
          congr 1
          simp [h0]
      rw [hleaf]
      unfold okT okC
      rw [if_neg h5]
theorem risCall_tells (c : S25) (k : Nat) (hk : 40 ≤ k) : althingref7_IsCall.f k c.f0 c.f1 c.f2 c.f3 = some (okT 3 c) := by
  unfold althingref7_IsCall.f
  rw [rcall_tells 3 0 (by omega) (by omega) c k (by omega)]; rfl

/-! ### how large a call is told -/
theorem call_ind {p : S25 → Prop} (h : ∀ c : S25, (∀ x ∈ c.f3, p x) → p c) : ∀ c, p c
  | ⟨a, b, n, l⟩ => h _ (fun x hx => call_ind h x)
termination_by c => SizeOf.sizeOf c
decreasing_by
  have := List.sizeOf_lt_of_mem hx
  simp only [S25.mk.sizeOf_spec] at *
  omega
theorem size_mono (c : S25) {k k' : Nat} (h : k ≤ k') {r : Int} (hr : althinglaw7_size.f k c.f0 c.f1 c.f2 c.f3 = some r) : althinglaw7_size.f k' c.f0 c.f1 c.f2 c.f3 = some r := by
  induction h with
  | refl => exact hr
  | step _ ih => exact althinglaw7_size.mono _ _ _ _ _ _ ih
theorem size_loop (l : List S25) (hl : l.length ≤ 9223372036854775807) (a b c : Int) (K : Nat) (ih : ∀ x ∈ l, ∀ k, K ≤ k → ∃ r, althinglaw7_size.f k x.f0 x.f1 x.f2 x.f3 = some r) (d : Nat) :
    ∀ (k i : Nat) (n : Int), i + d = l.length → d + K < k → ∃ r, althinglaw7_size.l0 k n i a b c l = some r := by
  induction d with
  | zero =>
    intro k i n hi hk
    obtain ⟨k, rfl⟩ : ∃ q, k = q + 1 := ⟨k - 1, by omega⟩
    exact ⟨n, by rw [althinglaw7_size.l0, if_neg (by omega)]⟩
  | succ d ihd =>
    intro k i n hi hk
    obtain ⟨k, rfl⟩ : ∃ q, k = q + 1 := ⟨k - 1, by omega⟩
    have hlt : i < l.length := by omega
    have e1 : wrap64 ((i : Int) + 1) = ((i + 1 : Nat) : Int) := by rw [wrap_in (by omega) (by omega)]; omega
    have c1 : (i : Int) < (l.length : Int) := by omega
    have c2 : (0 : Int) ≤ (i : Int) := by omega
    by_cases h3 : n < 300
    · obtain ⟨r, hr⟩ := ih _ (List.getElem_mem hlt) k (by omega)
      obtain ⟨q, hq⟩ := ihd k (i + 1) (wrap64 (n + r)) (by omega) (by omega)
      exact ⟨q, by rw [althinglaw7_size.l0, if_pos c1, if_pos h3, if_pos c2, rd_natT l i hlt, hr, Option.bind_some, e1]; exact hq⟩
    · exact ⟨n, by rw [althinglaw7_size.l0, if_pos c1, if_neg h3]⟩
/-- A call whose lists are no longer than can be. -/
def Fits : Nat → S25 → Prop
  | 0, _ => False
  | f + 1, c => c.f3.length ≤ 9223372036854775807 ∧ ∀ x ∈ c.f3, Fits f x
theorem size_some : ∀ (f : Nat) (c : S25), Fits f c → ∃ k r, althinglaw7_size.f k c.f0 c.f1 c.f2 c.f3 = some r
  | 0, c, h => h.elim
  | f + 1, c, ⟨hl, h⟩ => by
    have hK : ∀ l : List S25, (∀ x ∈ l, Fits f x) → ∃ K, ∀ x ∈ l, ∀ k, K ≤ k → ∃ r, althinglaw7_size.f k x.f0 x.f1 x.f2 x.f3 = some r := by
      intro l
      induction l with
      | nil => intro _; exact ⟨0, fun x hx => by cases hx⟩
      | cons x l ih =>
        intro hx
        obtain ⟨K, hK⟩ := ih (fun y hy => hx y (by simp [hy]))
        obtain ⟨k, r, hr⟩ := size_some f x (hx x (by simp))
        refine ⟨K + k, fun y hy q hq => ?_⟩
        rcases List.mem_cons.1 hy with rfl | hy
        · exact ⟨r, size_mono y (by omega) hr⟩
        · exact hK y hy q (by omega)
    obtain ⟨K, hK⟩ := hK c.f3 h
    obtain ⟨r, hr⟩ := size_loop c.f3 hl c.f0 c.f1 c.f2 K hK c.f3.length (c.f3.length + K + 1) 0 (wrap64 (1 + (c.f3.length : Int))) (by omega) (by omega)
    exact ⟨c.f3.length + K + 2, r, by rw [althinglaw7_size.f]; exact hr⟩
theorem Fits.more : ∀ {f : Nat} {c : S25}, Fits f c → Fits (f + 1) c
  | 0, _, h => h.elim
  | _ + 1, _, h => ⟨h.1, fun x hx => (h.2 x hx).more⟩
theorem Fits.mono {f f' : Nat} (h : f ≤ f') {c : S25} (hc : Fits f c) : Fits f' c := by
  induction h with
  | refl => exact hc
  | step _ ih => exact ih.more
theorem fits_list (l : List S25) (h : ∀ x ∈ l, ∃ f, Fits f x) : ∃ f, ∀ x ∈ l, Fits f x := by
  induction l with
  | nil => exact ⟨0, fun x hx => by cases hx⟩
  | cons x l ih =>
    obtain ⟨f, hf⟩ := h x (by simp)
    obtain ⟨g, hg⟩ := ih (fun y hy => h y (by simp [hy]))
    refine ⟨f + g, fun y hy => ?_⟩
    rcases List.mem_cons.1 hy with rfl | hy
    · exact hf.mono (by omega)
    · exact (hg y hy).mono (by omega)
theorem fits_kids (w : World) : ∀ (c : S25) (A : Option Addr), Kd.C k25 w A c.f3.length c.f3 → ∃ f, Fits f c := by
  apply call_ind
  intro c ih A h
  obtain ⟨f, hf⟩ := fits_list c.f3 (fun x hx => by
    obtain ⟨i, hi, rfl⟩ := List.mem_iff_getElem.1 hx
    obtain ⟨ad, A3, c3, eA, h0, h1, h2, h3, hl3, hC3⟩ := at_T25 h (i : Int) (by omega) (by omega)
    rw [rd_T c.f3 i hi] at hC3
    exact ih _ (List.getElem_mem hi) A3 hC3)
  have := C_short h
  exact ⟨f + 1, by omega, hf⟩

/-! ### more room changes nothing -/
end Go.Proofs.Ytilckocpgififaa.PNum

/- Bytes as a call, plainly: what code.taken computes. -/
namespace Go.Proofs.Ytilckocpgififaa.G
open Go.RowKit Go.Shelf Go.Proofs.YtilckocpgififaaW.PrintWords Go.Proofs.YtilckocpgififaaW.PrintMore Go.Proofs.Ytilckocpgififaa.PNum
set_option linter.unusedVariables false
set_option linter.unusedSimpArgs false

/-- What is left behind a number. -/
def restT (l : List Int) : List Int := l.drop (numT l).2.1
def valT (l : List Int) : Int := (numT l).1
def okN (l : List Int) : Bool := (numT l).2.2
theorem restT_bytes {l : List Int} (h : IsBytes l) : IsBytes (restT l) := h.drop _
/-- Calls, each a row, so many. -/
def kidsA (dec : List Int → Option S25) : Nat → List Int → Bool → List S25 → Option (List S25 × List Int × Bool)
  | 0, l, ok, acc => some (acc, l, ok)
  | n + 1, l, ok, acc => match dec (rowT l).1 with
    | none => none
    | some k => kidsA dec n (l.drop (rowT l).2.1) (ok && (rowT l).2.2) (acc ++ [k])
def headOk (l : List Int) : Bool := okN l && okN (restT l) && okN (restT (restT l)) && okN (restT (restT (restT l)))
def kidsN (l : List Int) : Int := valT (restT (restT (restT l)))
def bodyT (l : List Int) : List Int := restT (restT (restT (restT l)))
def takenF : Nat → List Int → Option S25
  | 0, _ => none
  | f + 1, l => if headOk l = false ∨ kidsN l > 4 then none else
    match kidsA (takenF f) (kidsN l).toNat (bodyT l) true [] with
    | none => none
    | some (ks, r, ok) => if (ok && decide (r.length = 0)) = true then some ⟨valT l, valT (restT l), valT (restT (restT l)), ks⟩ else none
def zeroC : List Value := [.int .i64 0, .int .i64 0, .int .i64 0, .slice none 0 0]
def placesC : List (Bool × Nat) := [(true, 0), (true, 1), (true, 2), (false, 0)]
theorem numsW_head (l : List Int) : numsW placesC l true zeroC [.int .i64 0] = (bodyT l, headOk l, [.int .i64 (valT l), .int .i64 (valT (restT l)), .int .i64 (valT (restT (restT l))), .slice none 0 0], [.int .i64 (kidsN l)]) := by
  simp [numsW, placesC, zeroC, bodyT, headOk, kidsN, restT, valT, okN]
end Go.Proofs.Ytilckocpgififaa.G

/- What was told as bytes is read as it was, plainly; what is read was told so. -/
namespace Go.Proofs.Ytilckocpgififaa.G
open Go.RowKit Go.Shelf Go.Proofs.YtilckocpgififaaW.PrintWords Go.Proofs.YtilckocpgififaaW.PrintMore Go.Proofs.Ytilckocpgififaa.PNum
set_option linter.unusedVariables false
set_option linter.unusedSimpArgs false

/-! ### a number, a row -/
def Small (n : Int) : Prop := 0 ≤ n ∧ n ≤ 4611686018427387904
theorem numT_put {n : Int} (h : Small n) (t : List Int) : numT (numB n ++ t) = (n, sizeN n, true) := by
  unfold numT; rw [takeN_put h.1 h.2 t]
theorem restT_put {n : Int} (h : Small n) (t : List Int) : restT (numB n ++ t) = t := by
  unfold restT; rw [numT_put h, ← numB_length n]; exact List.drop_left' rfl
theorem valT_put {n : Int} (h : Small n) (t : List Int) : valT (numB n ++ t) = n := by unfold valT; rw [numT_put h]
theorem okN_put {n : Int} (h : Small n) (t : List Int) : okN (numB n ++ t) = true := by unfold okN; rw [numT_put h]
theorem numT_tells {l : List Int} (hl : IsBytes l) (h : okN l = true) : Small (valT l) ∧ l = numB (valT l) ++ restT l := by
  unfold okN valT restT numT at *
  cases e : takeN l with
  | none => rw [e] at h; cases h
  | some x =>
    obtain ⟨n, s⟩ := x
    obtain ⟨h0, h1, h2, h3, h4⟩ := takeN_tells hl e
    refine ⟨⟨h0, h1⟩, ?_⟩
    dsimp only
    rw [← h4, List.take_append_drop]
theorem cutN_put (p t : List Int) (hp : p.length ≤ 4611686018427387904) : cutN (rowB p ++ t) = some (p, (rowB p).length) := by
  unfold cutN rowB
  rw [List.append_assoc, takeN_put (by omega) (by omega)]
  dsimp only
  rw [if_neg (by rw [List.length_append, numB_length, List.length_append]; omega), Int.toNat_natCast, List.length_append, numB_length]
  congr 2
  rw [← List.append_assoc, List.take_left' (by rw [List.length_append, numB_length]), List.drop_left' (numB_length _)]
theorem rowT_put (p t : List Int) (hp : p.length ≤ 4611686018427387904) : rowT (rowB p ++ t) = (p, (rowB p).length, true) := by
  unfold rowT; rw [cutN_put p t hp]
theorem rowT_tells {l : List Int} (hl : IsBytes l) (h : (rowT l).2.2 = true) : l = rowB (rowT l).1 ++ l.drop (rowT l).2.1 := by
  unfold rowT at *
  cases e : cutN l with
  | none => rw [e] at h; cases h
  | some x =>
    obtain ⟨p, s⟩ := x
    dsimp only
    unfold cutN at e
    cases eT : takeN l with
    | none => rw [eT] at e; cases e
    | some y =>
      obtain ⟨n, s0⟩ := y
      obtain ⟨h0, h1, h2, h3, h4⟩ := takeN_tells hl eT
      rw [eT] at e
      dsimp only at e
      by_cases c : (l.length : Int) - s0 < n
      · rw [if_pos c] at e; cases e
      · rw [if_neg c] at e
        injection e with e
        injection e with e1 e2
        have hpl : p.length = n.toNat := by rw [← e1, List.length_drop, List.length_take]; omega
        have hn : ((p.length : Nat) : Int) = n := by omega
        have e3 : l.take s = l.take s0 ++ p := by
          rw [← e1, ← e2]
          have := List.take_append_drop s0 (l.take (s0 + n.toNat))
          rw [List.take_take, Nat.min_eq_left (by omega)] at this
          exact this.symm
        unfold rowB
        rw [hn, ← h4, ← e3, List.take_append_drop]

/-! ### the kids -/
theorem kids_put (dec : List Int → Option S25) (enc : S25 → List Int) (l : List S25) (hl : ∀ x ∈ l, (enc x).length ≤ 4611686018427387904 ∧ dec (enc x) = some x) (t : List Int) :
    ∀ (acc : List S25), kidsA dec l.length (rowsB (l.map enc) ++ t) true acc = some (acc ++ l, t, true) := by
  induction l with
  | nil => intro acc; simp [kidsA, rowsB]
  | cons x l ih =>
    intro acc
    obtain ⟨h1, h2⟩ := hl x (by simp)
    rw [List.length_cons, kidsA, List.map_cons, rowsB_cons, List.append_assoc, rowT_put _ _ h1]
    dsimp only
    rw [h2]
    dsimp only
    rw [List.drop_left' rfl, Bool.and_true, ih (fun y hy => hl y (by simp [hy]))]
    simp

/-! ### a call -/
theorem okT_small {f : Nat} {c : S25} (h : okT f c = true) : Small c.f0 ∧ Small c.f1 ∧ Small c.f2 ∧ c.f3.length ≤ 4 := by
  have leaf : leafOk c.f0 c.f1 c.f2 c.f3 = true → Small c.f0 ∧ Small c.f1 ∧ Small c.f2 ∧ c.f3.length ≤ 4 := by
    intro h
    unfold leafOk at h
    unfold Small
    split at h
    · simp only [Bool.and_eq_true, decide_eq_true_eq] at h; omega
    · split at h
      · simp only [Bool.and_eq_true, decide_eq_true_eq] at h; omega
      · split at h
        · simp only [Bool.and_eq_true, decide_eq_true_eq] at h; omega
        · cases h
  cases f with
  | zero => unfold okT okC at h; exact leaf h
  | succ f =>
    unfold okT okC at h
    by_cases h5 : c.f0 = 5
    · rw [if_pos h5] at h
      simp only [Bool.and_eq_true, decide_eq_true_eq] at h
      unfold Small
      omega
    · rw [if_neg h5] at h; exact leaf h
theorem head_put {c : S25} (h0 : Small c.f0) (h1 : Small c.f1) (h2 : Small c.f2) (h3 : c.f3.length ≤ 4) (t : List Int) :
    headOk (numsB [c.f0, c.f1, c.f2, (c.f3.length : Int)] ++ t) = true ∧ kidsN (numsB [c.f0, c.f1, c.f2, (c.f3.length : Int)] ++ t) = (c.f3.length : Int) ∧ bodyT (numsB [c.f0, c.f1, c.f2, (c.f3.length : Int)] ++ t) = t ∧
    valT (numsB [c.f0, c.f1, c.f2, (c.f3.length : Int)] ++ t) = c.f0 ∧ valT (restT (numsB [c.f0, c.f1, c.f2, (c.f3.length : Int)] ++ t)) = c.f1 ∧ valT (restT (restT (numsB [c.f0, c.f1, c.f2, (c.f3.length : Int)] ++ t))) = c.f2 := by
  have hn : Small (c.f3.length : Int) := by unfold Small; omega
  have e : numsB [c.f0, c.f1, c.f2, (c.f3.length : Int)] ++ t = numB c.f0 ++ (numB c.f1 ++ (numB c.f2 ++ (numB (c.f3.length : Int) ++ t))) := by simp [numsB]
  rw [e]
  unfold headOk kidsN bodyT
  simp only [restT_put h0, restT_put h1, restT_put h2, restT_put hn, valT_put h0, valT_put h1, valT_put h2, valT_put hn, okN_put h0, okN_put h1, okN_put h2, okN_put hn, Bool.and_self, and_self]
theorem call_eta (c : S25) : (⟨c.f0, c.f1, c.f2, c.f3⟩ : S25) = c := by cases c; rfl
theorem taken_put : ∀ (f : Nat) (c : S25), f ≤ 3 → okT f c = true → takenF (f + 1) (encC f c) = some c
  | 0, c, hf, h => by
    obtain ⟨h0, h1, h2, h3⟩ := okT_small h
    have hk := okT_leaf h
    obtain ⟨a1, a2, a3, a4, a5, a6⟩ := head_put h0 h1 h2 h3 []
    rw [List.append_nil] at a1 a2 a3 a4 a5 a6
    rw [hk] at a1 a2 a3 a4 a5 a6
    unfold encC takenF
    rw [hk, a1, a2, a3, if_neg (by simp)]
    rw [a4, a5, a6]
    simp only [List.length_nil, Int.toNat_natCast, kidsA]
    rw [if_pos (by simp), ← hk, call_eta]
  | f + 1, c, hf, h => by
    obtain ⟨h0, h1, h2, h3⟩ := okT_small h
    obtain ⟨h4, hk⟩ := okT_kids h
    obtain ⟨a1, a2, a3, a4, a5, a6⟩ := head_put h0 h1 h2 h3 (rowsB (c.f3.map (encC f)))
    unfold encC takenF
    have := kids_put (takenF (f + 1)) (encC f) c.f3 (fun x hx => ⟨by have := encC_most f x (hk x hx); have := mostC_small (f := f) (by omega); omega, taken_put f x (by omega) (hk x hx)⟩) [] []
    rw [List.append_nil, List.nil_append] at this
    rw [a1, a2, a3, a4, a5, a6, if_neg (by simp; omega), Int.toNat_natCast, this]
    dsimp only
    rw [if_pos (by simp), call_eta]
end Go.Proofs.Ytilckocpgififaa.G

/- (*code.reader).nums: numbers are taken into places (laid by mkread.py). -/
namespace Go.Proofs.Ytilckocpgififaa.G
open Go.RowKit Go.Shelf Go.Proofs.YtilckocpgififaaW.PrintWords Go.Proofs.YtilckocpgififaaW.PrintLast Go.Proofs.YtilckocpgififaaW.PrintMore Go.Proofs.Ytilckocpgififaa.PNum
set_option linter.unusedVariables false
set_option linter.unusedSimpArgs false
def bad3 (R g1 g2 : Nat) (k : Nat) : Prop := k = R ∨ k = g1 ∨ k = g2
def nums_r5.T : Bool × List (List Nat × List Nat) := (true, [([], []), ([], []), ([], []), ([], []), ([3], [3]), ([4], [4]), ([5], [5]), ([], []), ([6, 7], [6, 7]), ([0, 0, 2, 6], [0]), ([9, 2, 0, 2, 6], [2, 9]), ([1, 0, 1, 2, 3, 4, 5, 6, 7, 8, 9, 10], [1]), ([11, 0, 1, 2, 3, 4, 5, 6, 7, 8, 9, 10], [11]), ([12, 8, 10, 0, 1, 2, 3, 4, 5, 6, 7, 8, 9, 10], [8, 12])])
def nums_r5.B : List Nat := [0, 0, 0, 0, 8, 24, 56, 0, 248, 125, 637, 2047, 4095, 8191]
theorem nums_r5.tab : rtab .any (opsOf Try.f43 5) = nums_r5.T := by kernel_rfl
theorem nums_r5.bits : waitsOk nums_r5.T.2 nums_r5.B = true := by kernel_rfl
def nums_r5.l0 : Array Bool := bl 14 1
def nums_r5.l1 : Array Bool := bl 14 3
def nums_r5.l2 : Array Bool := bl 14 7
def nums_r5.l3 : Array Bool := bl 14 15
def nums_r5.l4 : Array Bool := bl 14 31
def nums_r5.l5 : Array Bool := bl 14 63
def nums_r5.l6 : Array Bool := bl 14 127
def nums_r5.l7 : Array Bool := bl 14 255
def nums_r5.l8 : Array Bool := bl 14 511
def nums_r5.l9 : Array Bool := bl 14 1023
def nums_r5.l10 : Array Bool := bl 14 2047
def nums_r5.l11 : Array Bool := bl 14 4095
def nums_r5.l12 : Array Bool := bl 14 8191
def nums_r5.l13 : Array Bool := bl 14 16383
set_option maxRecDepth 100000 in
set_option maxHeartbeats 16000000 in
theorem nums_calls (B R g1 g2 gp cp : Nat) (ps : List (Bool × Nat)) (A : Option Addr) (c : Nat) (l : List Int) (ok : Bool) (L1 L2 : List Value) (w : World) (hR : ReadAt B w R g1 g2 A c l ok L1 L2)
    (hps : ∀ i (h : i < ps.length), (ps[i]).2 < (if (ps[i]).1 = true then L1 else L2).length) (hp : ∀ i (h : i < ps.length), w.cell? ⟨gp, i, none⟩ = some (.pointer (some ⟨if (ps[i]).1 = true then g1 else g2, (ps[i]).2, none⟩)))
    (hgp : gp < w.heap.size ∧ gp ≠ R ∧ gp ≠ g1 ∧ gp ≠ g2) (hn : ps.length ≤ 1000) :
    Calls Try.prog 43 #[.pointer (some ⟨R, 0, none⟩), .slice (some ⟨gp, 0, none⟩) ps.length cp] w fun e w' => e = .returned (.tuple #[]) ∧
      (∃ A' c', ReadAt B w' R g1 g2 A' c' (numsW ps l ok L1 L2).1 (numsW ps l ok L1 L2).2.1 (numsW ps l ok L1 L2).2.2.1 (numsW ps l ok L1 L2).2.2.2) ∧ Kept (bad3 R g1 g2) w w' := by
  have HR := Aside0.mk hR
  have HPS := Aside0.mk hps
  have HP := Aside0.mk hp
  have HGP := Aside0.mk hgp
  have HN := Aside0.mk hn
  clear hR hps hp hgp hn
  go_enter Try.func43, Try.ntmps43
  go_wp2
  go_loopw [11] (fun i wr => ∃ x : Int, i = .int .i64 x ∧ (0 ≤ x ∧ x ≤ (ps.length : Int)) ∧
      Aside0 (∃ A' c' l' ok' L1' L2', ReadAt B wr R g1 g2 A' c' l' ok' L1' L2' ∧ L1'.length = L1.length ∧ L2'.length = L2.length ∧ numsW (ps.drop x.toNat) l' ok' L1' L2' = numsW ps l ok L1 L2) ∧ Aside0 (Kept (bad3 R g1 g2) w wr))
    (fun i _ => ps.length - (intOf i).toNat)
  case atStart => exact ⟨0, rfl, ⟨by omega, by omega⟩, ⟨A, c, l, ok, L1, L2, HR.out, rfl, rfl, rfl⟩, ⟨Kept.refl _ _⟩⟩
  case round =>
  obtain ⟨x, rfl, ⟨hx0, hx1⟩, HV, HG⟩ := hrel
  obtain ⟨A', c', l', ok', L1', L2', hRA, hl1, hl2, hE⟩ := HV.out
  have hnn := HN.out
  by_cases hlt : x < (ps.length : Int)
  · have d0 : decide (x < (ps.length : Int)) = true := decide_eq_true hlt
    have xw : wrap64 (x + 1) = x + 1 := by unfold wrap64; omega
    have hxl : x.toNat < ps.length := by omega
    obtain ⟨b, o, hbo⟩ : ∃ b o, ps[x.toNat] = (b, o) := ⟨_, _, rfl⟩
    have key : ∃ (G H : Nat) (LG LH : List Value), ReadAt B wr R G H A' c' l' ok' LG LH ∧ o < LG.length ∧ bad3 R g1 g2 G ∧ wr.cell? ⟨gp, x.toNat, none⟩ = some (.pointer (some ⟨G, o, none⟩)) ∧
        (∀ (W : World) A2 c2 l2 ok2 v, ReadAt B W R G H A2 c2 l2 ok2 (LG.set o v) LH → ReadAt B W R g1 g2 A2 c2 l2 ok2 (if b = true then L1'.set o v else L1') (if b = true then L2' else L2'.set o v)) := by
      have hc := HP.out x.toNat hxl
      have ho := HPS.out x.toNat hxl
      rw [hbo] at hc ho
      have hcell : wr.cell? ⟨gp, x.toNat, none⟩ = w.cell? ⟨gp, x.toNat, none⟩ := World.cell?_of_block (a := ⟨gp, x.toNat, none⟩) (HG.out.block gp HGP.out.1 (fun q => q.elim HGP.out.2.1 (fun q => q.elim HGP.out.2.2.1 HGP.out.2.2.2)))
      cases b with
      | true => exact ⟨g1, g2, L1', L2', hRA, by rw [hl1]; exact ho, .inr (.inl rfl), hcell.trans hc, fun W A2 c2 l2 ok2 v h => h⟩
      | false => exact ⟨g2, g1, L2', L1', hRA.swap, by rw [hl2]; exact ho, .inr (.inr rfl), hcell.trans hc, fun W A2 c2 l2 ok2 v h => h.swap⟩
    obtain ⟨G, H, LG, LH, hRG, hoG, hbG, hpc, hback⟩ := key
    obtain ⟨v, hv⟩ : ∃ v, (numT l').1 = v := ⟨_, rfl⟩
    obtain ⟨s, hs⟩ : ∃ s, (numT l').2.1 = s := ⟨_, rfl⟩
    obtain ⟨k', hk'⟩ : ∃ k', (numT l').2.2 = k' := ⟨_, rfl⟩
    have hsl : s ≤ l'.length := by rw [← hs]; exact numT_size hRG.bytes
    have htk := ctake_tells 40 l' hRG.bytes (by decide)
    rw [numT_out, hv, hs, hk'] at htk
    have hnext : numsW (ps.drop (x + 1).toNat) (l'.drop s) (ok' && k') (if b = true then L1'.set o (.int .i64 v) else L1') (if b = true then L2' else L2'.set o (.int .i64 v)) = numsW ps l ok L1 L2 := by
      rw [← hE, List.drop_eq_getElem_cons hxl, hbo, numsW, hv, hs, hk', show (x + 1).toNat = x.toNat + 1 by omega]
    obtain ⟨i8, hi8, _, hsz8, _⟩ := info_parts info5
    obtain ⟨A2, hcut, hCr, hcc, hAA⟩ := cut_tail (P := Try.prog) 38 5 Try.underlying38 hi8 hsz8 A' c' l' s hsl hRG.cap
    have HTK := Aside0.mk htk
    have HRG := Aside0.mk hRG
    have HO := Aside0.mk hoG
    have BG := Aside0.mk hbG
    have HBK := Aside0.mk hback
    have HNX := Aside0.mk hnext
    have HCR := Aside0.mk hCr
    have HCC := Aside0.mk hcc
    have HAA := Aside0.mk hAA
    have HL1 := Aside0.mk hl1
    have HL2 := Aside0.mk hl2
    have r0 := hRG.reader.cell (i := 0) (v := .slice A' l'.length c') rfl
    clear htk hRG hoG hbG hback hnext hCr hcc hAA hl1 hl2 hE HV hRA hbo hv hs hk' hi8 hsz8 hsl
    obtain ⟨kk, hkk⟩ : ∃ kk, kk = (ok' && k') := ⟨_, rfl⟩
    have HKK := Aside0.mk hkk
    clear hkk
    cases ok'
    all_goals (
      go_upto_region 4 with (go_at_call 61; with_reducible refine (compact_Take.calls 40 A' c' l' v (s : Int) k' _ HRG.out.row HRG.out.cap HTK.out).mono ?_; rintro e w1 ⟨rfl, hb_⟩; have HR1 := Aside0.mk (HRG.out.below hb_); have HK1 := Aside0.mk (HG.out.below hb_); clear hb_)
      clear r0
      have q1 := HR1.out.reader.cell (i := 1) (v := .bool _) rfl
      have q2 := HR1.out.reader.frozen 1 (by simp)
      go_upto_region 5 with (fail)
      have n0_ := HR1.out.setOk kk
      have k0_ := HK1.out.set (.inl rfl) 1 (.bool kk)
      rw [HKK.out] at n0_ k0_
      clear q1 q2
      simp only [Bool.true_and, Bool.false_and] at n0_ k0_
      generalize World.setCell _ _ _ = w2 at n0_ k0_ ⊢
      have r0 := n0_.drew.reader.cell (i := 0) (v := .slice A' l'.length c') rfl
      have HQ0 := Aside0.mk n0_.drew
      have HKQ0 := Aside0.mk k0_.drew
      clear n0_ k0_
      obtain ⟨uG, huG⟩ : ∃ u, LG[o]? = some u := ⟨_, List.getElem?_eq_getElem HO.out⟩
      have cG := HQ0.out.one.cell huG
      have fG := HQ0.out.one.frozen o HO.out
      clear huG
      refine start_ (n := 14) (S := fun w' => w'.cell? ⟨R, 0, none⟩ = some (.slice A' l'.length c')) (ds := [13]) #[false, false, false, false, false, false, false, false, false, false, false, false, false, false] (by kernel_rfl) rfl rfl r0 (fun hHeld => ?_)
      refine with_tabW nums_r5.tab nums_r5.bits (fun HT_ HW_ => ?_)
      clear hHeld
      have hHeld := r0
      refine pu HT_ 0 (some 34) nums_r5.l0 (h := ?_)
      refine pu HT_ 1 (some 35) nums_r5.l1 (h := ?_)
      refine pu HT_ 2 (some 36) nums_r5.l2 (h := ?_)
      refine pu HT_ 3 (some 37) nums_r5.l3 (h := ?_)
      refine pu HT_ 4 (some 38) nums_r5.l4 (h := ?_)
      refine pu HT_ 5 (some 39) nums_r5.l5 (h := ?_)
      refine tk HT_ HW_ hHeld 6 (some 40) nums_r5.l6 (hr := by intro w' hs_; have s0 := hs_; go_simp; with_reducible rfl) (h := ?_)
      refine pu HT_ 7 (some 41) nums_r5.l7 (h := ?_)
      refine pu HT_ 8 (some 42) nums_r5.l8 (h := ?_)
      refine pu HT_ 9 (some 43) nums_r5.l9 (h := ?_)
      refine one_ (i := 10) (N := none) nums_r5.l10 rfl rfl (one_of HT_.out (by kernel_rfl)) (by decide) (fun K hK => ?_)
      refine skip_ (w1 := w2.drew.setCell ⟨G, o, none⟩ (.int .i64 v)) (by rfl) rfl ?_ ?_
      · go_simp
      have n0_ := HQ0.out.setOne o HO.out (.int .i64 v)
      have k0_ := HKQ0.out.set BG.out o (.int .i64 v)
      have hHeld := n0_.reader.cell (i := 0) (v := .slice A' l'.length c') rfl
      refine hK.out _ _ hHeld (fun hHeld => ?_)
      clear hK K
      generalize World.setCell _ _ _ = wz at n0_ k0_ hHeld ⊢
      have HZ := Aside0.mk n0_
      have HKZ := Aside0.mk k0_
      have fz := n0_.reader.frozen 0 (by simp)
      clear n0_ k0_ cG fG
      refine pu HT_ 11 (some 44) nums_r5.l11 (h := ?_)
      refine pu HT_ 12 (some 45) nums_r5.l12 (h := ?_)
      refine last_ (i := 13) (N := none) nums_r5.l13 rfl rfl (one_of HT_.out (by kernel_rfl)) (by decide) (fun K hK => ?_)
      refine skip_ (w1 := wz.setCell ⟨R, 0, none⟩ (.slice A2 (l'.length - s) (c' - s))) (by rfl) rfl ?_ ?_
      · go_simp
      refine hK.out _ _ ?_
      clear hK K
      refine done_ (done_of HT_.out (by kernel_rfl)) ?_
      clear HT_ HW_
      have n0_ := HZ.out.setRest (A' := A2) (c' := c' - s) (l' := l'.drop s) (by rw [List.length_drop]; exact HCC.out) (HCR.out _ _ HZ.out.row) (HZ.out.bytes.drop s) (by rw [List.length_drop]; have := HZ.out.short; omega) (fun ad' e hn => by
        obtain ⟨ad, e1, e2⟩ := HAA.out ad' e
        rw [e2]; exact HZ.out.far ad e1 (by rw [List.length_drop] at hn; omega))
      have k0_ := HKZ.out.set (g := R) (.inl rfl) 0 (.slice A2 (l'.length - s) (c' - s))
      rw [List.length_drop] at n0_
      clear hHeld fz
      generalize World.setCell _ _ _ = w5 at n0_ k0_ ⊢
      have HF := Aside0.mk (HBK.out _ _ _ _ _ _ n0_)
      have HKF := Aside0.mk k0_
      clear n0_ k0_
      go_wp2
      refine ⟨⟨x + 1, by first | rfl | (rw [xw]) | (simp [xw]), ⟨by omega, by omega⟩, ⟨_, _, _, _, _, _, HF.out, ?_, ?_, ?_⟩, HKF⟩, by simp [intOf]; omega⟩
      · split <;> first | (rw [List.length_set]; exact HL1.out) | exact HL1.out
      · split <;> first | (rw [List.length_set]; exact HL2.out) | exact HL2.out
      · exact HNX.out)
  · have d0 : decide (x < (ps.length : Int)) = false := decide_eq_false hlt
    have hx9 : x = (ps.length : Int) := by omega
    subst hx9
    rw [Int.toNat_natCast, List.drop_length] at hE
    have HRA := Aside0.mk hRA
    have HE := Aside0.mk hE
    clear hRA hl1 hl2 hE HV
    go_wp2
    refine bodyPost_end (v := .tuple #[]) (results_none rfl _ _ _) rfl ?_
    exact ⟨rfl, ⟨A', c', by rw [← HE.out]; exact HRA.out⟩, HG.out⟩
set_option maxRecDepth 100000 in
set_option maxHeartbeats 16000000 in
theorem row_calls (B R g1 g2 : Nat) (A : Option Addr) (c : Nat) (l : List Int) (ok : Bool) (L1 L2 : List Value) (w : World) (hR : ReadAt B w R g1 g2 A c l ok L1 L2) :
    Calls Try.prog 45 #[.pointer (some ⟨R, 0, none⟩)] w fun e w' =>
      (∃ A1 c1, e = .returned (.slice A1 (rowT l).1.length c1) ∧ (rowT l).1.length ≤ c1 ∧ Kd.C (Kd.int .u8) w' A1 (rowT l).1.length (rowT l).1 ∧ (∀ ad, A1 = some ad → 0 < (rowT l).1.length → w.heap.size ≤ ad.block)) ∧
      (∃ A' c', ReadAt B w' R g1 g2 A' c' (l.drop (rowT l).2.1) (ok && (rowT l).2.2) L1 L2) ∧ Kept (fun k => k = R) w w' := by
  have hsz := rowT_size hR.bytes
  have hct := cut_tells 40 l hR.bytes hR.short (by decide)
  rw [rowT_out] at hct
  obtain ⟨p, hp⟩ : ∃ p, (rowT l).1 = p := ⟨_, rfl⟩
  obtain ⟨s, hs⟩ : ∃ s, (rowT l).2.1 = s := ⟨_, rfl⟩
  obtain ⟨k', hk'⟩ : ∃ k', (rowT l).2.2 = k' := ⟨_, rfl⟩
  rw [hp, hs, hk'] at hct
  rw [hs] at hsz
  rw [hp, hs, hk']
  obtain ⟨i8, hi8, _, hsz8, _⟩ := info_parts info5
  obtain ⟨A2, hcut, hCr, hcc, hAA⟩ := cut_tail (P := Try.prog) 38 5 Try.underlying38 hi8 hsz8 A c l s hsz.1 hR.cap
  have HCT := Aside0.mk hct
  have HR := Aside0.mk hR
  have HCR := Aside0.mk hCr
  have HCC := Aside0.mk hcc
  have HAA := Aside0.mk hAA
  have r0 := hR.reader.cell (i := 0) (v := .slice A l.length c) rfl
  clear hct hR hCr hcc hAA hp hs hk' hi8 hsz8 hsz
  obtain ⟨kk, hkk⟩ : ∃ kk, kk = (ok && k') := ⟨_, rfl⟩
  have HKK := Aside0.mk hkk
  rw [← hkk]
  clear hkk
  cases ok
  all_goals (
    go_enter Try.func45, Try.ntmps45
    go_upto_region 2 with (go_at_call 62; go_loud (with_reducible refine (compact_Cut.calls 40 A c l p (s : Int) k' _ HR.out.row HR.out.cap HCT.out).mono ?_; rintro e w1 ⟨v0, rfl, hr_, hb_⟩; obtain ⟨A1, c1, hv_, hc1_, hC1_⟩ := Kd.R_reads hr_; have hfb_ : ∀ ad, A1 = some ad → 0 < p.length → w.heap.size ≤ ad.block := fun ad e _ => Kd.R_base hr_ ad.block (by rw [hv_, e]; simp [Value.ownBlock]); subst hv_; have HFB := Aside0.mk hfb_; have HC1 := Aside0.mk hc1_; have HCP := Aside0.mk hC1_; have HR1 := Aside0.mk (HR.out.below hb_); have HK1 := Aside0.mk ((Kept.refl (fun k => k = R) w).below hb_); clear hr_ hb_ hc1_ hC1_ hfb_))
    clear r0
    have q1 := HR1.out.reader.cell (i := 1) (v := .bool _) rfl
    have q2 := HR1.out.reader.frozen 1 (by simp)
    go_upto_region 3 with (fail)
    have n0_ := HR1.out.setOk kk
    have k0_ := HK1.out.set (g := R) rfl 1 (.bool kk)
    have c0_ : Kd.C (Kd.int .u8) (w1.setCell ⟨R, 1, none⟩ (.bool kk)) A1 p.length p := C_stays HCP.out (fun ad e hn => Below.heap_setCell w1 ⟨R, 1, none⟩ _ _ (fun q => by have := HFB.out ad e hn; have := HR.out.reader.lt (by simp); have q' : ad.block = R := q; omega))
    rw [HKK.out] at n0_ k0_ c0_
    clear q1 q2
    simp only [Bool.true_and, Bool.false_and] at n0_ k0_ c0_
    generalize World.setCell _ _ _ = w2 at n0_ k0_ c0_ ⊢
    have r0 := n0_.reader.cell (i := 0) (v := .slice A l.length c) rfl
    have f0 := n0_.reader.frozen 0 (by simp)
    have n1_ := n0_.setRest (A' := A2) (c' := c - s) (l' := l.drop s) (by rw [List.length_drop]; exact HCC.out) (HCR.out _ _ n0_.row) (n0_.bytes.drop s) (by rw [List.length_drop]; have := n0_.short; omega) (fun ad' e hn => by
      obtain ⟨ad, e1, e2⟩ := HAA.out ad' e
      rw [e2]; exact n0_.far ad e1 (by rw [List.length_drop] at hn; omega))
    have k1_ := k0_.set (g := R) rfl 0 (.slice A2 (l.length - s) (c - s))
    have c1_ : Kd.C (Kd.int .u8) (w2.setCell ⟨R, 0, none⟩ (.slice A2 (l.length - s) (c - s))) A1 p.length p := C_stays c0_ (fun ad e hn => Below.heap_setCell w2 ⟨R, 0, none⟩ _ _ (fun q => by have := HFB.out ad e hn; have := HR.out.reader.lt (by simp); have q' : ad.block = R := q; omega))
    rw [List.length_drop] at n1_
    have N1 := Aside0.mk n1_
    have K1 := Aside0.mk k1_
    have C1 := Aside0.mk c1_
    clear n0_ k0_ c0_ n1_ k1_ c1_
    go_wp2
    go_ret
    exact ⟨⟨A1, c1, rfl, HC1.out, C1.out, HFB.out⟩, ⟨A2, c - s, by rw [HKK.out]; exact N1.out⟩, K1.out⟩)
/-- Is all told, and is nothing left? -/
theorem whole_calls (B R g1 g2 : Nat) (A : Option Addr) (c : Nat) (l : List Int) (ok : Bool) (L1 L2 : List Value) (w : World) (hR : ReadAt B w R g1 g2 A c l ok L1 L2) :
    Calls Try.prog 46 #[.pointer (some ⟨R, 0, none⟩)] w fun e w' => e = .returned (.bool (ok && decide (l.length = 0))) ∧ w' = w := by
  have r0 := hR.reader.cell (i := 0) (v := .slice A l.length c) rfl
  have r1 := hR.reader.cell (i := 1) (v := .bool ok) rfl
  clear hR
  by_cases h0 : l.length = 0
  · have d0 : decide (l.length = 0) = true := decide_eq_true h0
    have d1 : decide ((l.length : Int) = 0) = true := decide_eq_true (by omega)
    have d2 : ((l.length : Int) == 0) = true := beq_iff_eq.2 (by omega)
    rw [d0]
    clear h0 d0
    cases ok
    all_goals (
      go_enter Try.func46, Try.ntmps46
      go_wp2
      go_ret
      exact ⟨by simp, rfl⟩)
  · have d0 : decide (l.length = 0) = false := decide_eq_false h0
    have d1 : decide ((l.length : Int) = 0) = false := decide_eq_false (by omega)
    have d2 : ((l.length : Int) == 0) = false := beq_eq_false_iff_ne.2 (by omega)
    rw [d0]
    clear h0 d0
    cases ok
    all_goals (
      go_enter Try.func46, Try.ntmps46
      go_wp2
      go_ret
      exact ⟨by simp, rfl⟩)
end Go.Proofs.Ytilckocpgififaa.G

/- What the walk of code.taken needs: two results, a row of calls that grows by one, what taken is to show. -/
namespace Go.Proofs.Ytilckocpgififaa.G
open Go.RowKit Go.Shelf Go.Proofs.YtilckocpgififaaW.PrintWords Go.Proofs.YtilckocpgififaaW.PrintLast Go.Proofs.YtilckocpgififaaW.PrintMore Go.Proofs.Ytilckocpgififaa.PNum
set_option linter.unusedVariables false
set_option linter.unusedSimpArgs false

theorem results_cell_tmp {P : Program} {fn : Func} {t u : Tmp} {ty : TypeId} (h : fn.results = #[.cell t ty, .tmp u]) (tmps : Array Value) {w : World} {g : Nat} {v : Value} (hp : tmps.getD t undef = .pointer (some ⟨g, 0, none⟩)) (hv : (loadVar ty ⟨g, 0, none⟩).run P w = .ok v w) :
    (results fn tmps).run P w = .ok (.tuple #[v, tmps.getD u undef]) w := by
  have hp' : tmps[t]?.getD undef = .pointer (some ⟨g, 0, none⟩) := by rw [← hp]; simp
  simp [results, h, hp', asAddr, hv]
theorem R_shape {α : Type} {d : Kd α} {e : Nat} {w : World} {base : Nat} {ok : Nat → Prop} {v : Value} {xs : List α} (h : d.R e w base ok v xs) (hn : 0 < xs.length) (hs : 0 < d.sz) : ∃ g cap, v = .slice (some ⟨g, 0, none⟩) xs.length cap ∧ xs.length ≤ cap := by
  obtain ⟨A, c, hv, hc, hC⟩ := Kd.R_reads h
  obtain ⟨_, inner, ho, hr⟩ := h
  rcases ho.2 with ⟨h2, _⟩ | ⟨g, cap, cur, h2, _⟩
  · obtain ⟨ad, e1, _⟩ := hC.2.2 hn
    rw [hv, e1] at h2; cases h2
  · refine ⟨g, cap, h2, ?_⟩
    rw [hv] at h2
    injection h2 with _ _ h3
    omega
/-- The cells of a row's last element may be written; it is another one then. -/
theorem put_last {w : World} {base bv cap : Nat} {ok okp : Nat → Prop} {ks : List S25} {z x : S25} {L : List Value} (h : k25.R 25 w base ok (.slice (some ⟨bv, 0, none⟩) (ks.length + 1) cap) (ks ++ [z]))
    (hM : k25.M w base okp x L) (hokp : ∀ k, okp k → ok k ∧ k ≠ bv) :
    w.there bv (ks.length * 4) 4 ∧ k25.R 25 (w.setCells bv (ks.length * 4) L) base ok (.slice (some ⟨bv, 0, none⟩) (ks.length + 1) cap) (ks ++ [x]) ∧ w.grownBy (w.setCells bv (ks.length * 4) L) (some bv) := by
  have hL : L.length = 4 := k25.K_len (k25.K_of_M hM)
  obtain ⟨c, hcl, _, hcc, hfr⟩ := Kd.R_elem h z (ks.length : Int) (by omega) (by omega)
  have hcl4 : c.length = 4 := hcl
  rw [Int.toNat_natCast] at hcc hfr
  have hcc4 : ∀ j u, c[j]? = some u → w.cell? ⟨bv, ks.length * 4 + j, none⟩ = some u := hcc
  have hfr4 : ∀ j, w.frozen? ⟨bv, ks.length * 4 + j, none⟩ = false := hfr
  obtain ⟨h1, h2⟩ := Kd.R_seg h (ks.length : Int) (by omega) (by omega) (c := c) (seg := L) (j := 0) hcl (by rw [Int.toNat_natCast]; exact hcc) (by rw [hL]; exact Nat.le_refl _) (x' := x) (okp := okp) (by
    rw [List.take_zero, List.nil_append, List.drop_of_length_le (by omega), List.append_nil]; exact hM) hokp
  rw [Int.toNat_natCast] at h1 h2
  refine ⟨fun j hj => ⟨?_, hfr4 j⟩, ?_, h2⟩
  · rw [hcc4 j c[j] (List.getElem?_eq_getElem (by omega))]; rfl
  · have e : (ks ++ [z]).set ks.length x = ks ++ [x] := by rw [List.set_append_right _ _ (Nat.le_refl _), Nat.sub_self]; rfl
    rw [e] at h1
    exact h1
theorem zero_M (w : World) (base : Nat) (ok : Nat → Prop) : k25.M w base ok z25 zeroC := k25_mkM w base ok z25 (Kd.R_nil _ _ _ _ _)
theorem zero_call : (Try.prog.info? 25).map (fun i => (i.zero, i.size)) = some (some (.agg zeroC.toArray), 4) := by kernel_rfl
theorem info_call : (Try.prog.info? 25).map (·.size) = some 4 := by kernel_rfl
theorem info_callz : (Try.prog.info? 25).map (fun i => (i.zero, i.size, i.bytes)) = some (some (.agg zeroC.toArray), 4, 48) := by kernel_rfl
theorem built_call : Try.prog.built 25 [] = some zeroC.toArray := by kernel_rfl
theorem zero_runC (w : World) : (zeroValue 25).run Try.prog w = .ok (.agg zeroC.toArray) w := by
  have h := zero_call
  cases hi : Try.prog.info? 25 with
  | none => rw [hi] at h; cases h
  | some i => rw [hi] at h; simp at h; simp [zeroValue, typeInfo, hi, h.1, go_sem]
theorem load_runO' {P : Program} {o : Oper} {a : Act} {w : World} {ty : TypeId} {y : Operand} {g off : Nat} {L : List Value} {d : TypeDesc} (ho : o.op = .load ty y) (hx : a.eval y = .pointer (some ⟨g, off, none⟩)) (h : w.rangeAt g off L) (hu : P.underlying ty = some d) (hd : d.isRow = true) (hi : (P.info? ty).map (·.size) = some L.length) :
    (execOp a.eval o).run P w = .ok (.value (.agg L.toArray)) w := by
  unfold execOp
  simp only [ho, hx, Instr.loadAt, Instr.sureAddr, Sem.run_bind, Sem.run_pure, Result.andThen_ok, run_loadVar_mid w g off ty L d h hu hd hi]
theorem store_runO' {P : Program} {o : Oper} {a : Act} {w : World} {ty : TypeId} {x y : Operand} {g off : Nat} {L : List Value} (ho : o.op = .store ty x y) (hx : a.eval x = .pointer (some ⟨g, off, none⟩)) (hy : a.eval y = .agg L.toArray)
    (ht : w.there g off L.length) (hi : (P.info? ty).map (·.size) = some L.length) (h1 : ∀ v ∈ L, v.oneCell' = true) :
    (execOp a.eval o).run P w = .ok .skip (w.setCells g off L) := by
  unfold execOp
  simp only [ho, hx, hy, Instr.storeAt, Instr.sureAddr, Sem.run_bind, Sem.run_pure, Result.andThen_ok, run_storeVar_mid w g off ty L.toArray (by rw [List.size_toArray]; exact ht) (by rw [List.size_toArray]; exact hi) (all_oneCell_toArray h1)]
/-- What taken shows: so many batches more may come. -/
def TakenAt (f : Nat) (d : Int) : Prop := ∀ (A : Option Addr) (c : Nat) (l : List Int) (w : World), Kd.C (Kd.int .u8) w A l.length l → l.length ≤ c → IsBytes l → l.length < 140737488355328 →
  Calls Try.prog 52 #[.slice A l.length c, .int .i64 d] w fun e w' =>
    (∃ L : List Value, e = .returned (.tuple #[.agg L.toArray, .bool (takenF f l).isSome]) ∧ L.length = 4 ∧ (∀ v ∈ L, v.oneCell' = true) ∧ ∀ x, takenF f l = some x → k25.M w' w.heap.size (fun _ => True) x L) ∧ Below w.heap.size w w'
theorem below_setCells' {B : Nat} {w0 : World} (g : Nat) (hg : B ≤ g) : ∀ (L : List Value) (o : Nat) (w : World), Below B w0 w → Below B w0 (w.setCells g o L)
  | [], _, _, h => h
  | v :: L, o, w, h => below_setCells' g hg L (o + 1) _ (h.setCell (p := ⟨g, o, none⟩) hg v)
theorem kept_setCells (g o : Nat) (L : List Value) (w : World) : Kept (fun k => k = g) w (w.setCells g o L) := by
  obtain ⟨h1, h2, h3, h4⟩ := setCells_same g L o w
  exact ⟨h1, h2, h3, by rw [h4]; exact Nat.le_refl _, fun k _ hk => Go.Proofs.YtilckocpgififaaW.PrintWords.setCells_far L o k hk⟩
theorem Kept.of_below {bad : Nat → Prop} {w w' : World} (h : Below w.heap.size w w') : Kept bad w w' := (Kept.refl bad w).below h
theorem Kept.of_grown {w w' : World} {r : Option Nat} (h : w.grownBy w' r) : Kept (fun k => some k = r) w w' := ⟨h.os, h.tape, h.output, h.size, fun k hk hne => h.block k hk hne⟩
/-- A kid is laid behind the others: the element's cells and the call's own slice are written, in either order. -/
theorem grow_kids {B R gc gn g4 bv cap : Nat} {w W w11 : World} {A2 : Option Addr} {c2 : Nat} {l2 : List Int} {ok2 : Bool} {a b c3 : Int} {v0 : Value} {L2 Z LK : List Value} {okq okK : Nat → Prop} {ks : List S25} {kx : S25}
    (hR : ReadAt B W R gc gn A2 c2 l2 ok2 [.int .i64 a, .int .i64 b, .int .i64 c3, v0] L2) (h4 : Lies W g4 Z) (hZ : 0 < Z.length) (hn4 : g4 ≠ R ∧ g4 ≠ gc ∧ g4 ≠ gn)
    (hokq : ∀ k, okq k → k ≠ R ∧ k ≠ gc ∧ k ≠ gn ∧ k ≠ g4) (hk : k25.M W B okK kx LK) (hokK : ∀ k, okK k → okq k ∧ k < W.heap.size ∧ some k ≠ v0.ownBlock) (hv0 : ∀ k, v0.ownBlock = some k → okq k ∧ B ≤ k)
    (hRA : k25.R 25 w11 B okq (.slice (some ⟨bv, 0, none⟩) (ks.length + 1) cap) (ks ++ [z25])) (hB : Below B w w11) (hBW : B ≤ W.heap.size) (hg : W.grownBy w11 v0.ownBlock)
    (hat : (Value.slice (some ⟨bv, 0, none⟩) (ks.length + 1) cap).ownBlock = v0.ownBlock ∨ ∃ q, (Value.slice (some ⟨bv, 0, none⟩) (ks.length + 1) cap).ownBlock = some q ∧ W.heap.size ≤ q) :
    w11.there bv (ks.length * 4) 4 ∧ w11.frozen? ⟨gc, 3, none⟩ = false ∧
    ((w11.setCells bv (ks.length * 4) LK).cell? ⟨gc, 3, none⟩ = some v0 ∧ (w11.setCells bv (ks.length * 4) LK).frozen? ⟨gc, 3, none⟩ = false) ∧
    (w11.setCell ⟨gc, 3, none⟩ (.slice (some ⟨bv, 0, none⟩) (ks.length + 1) cap)).there bv (ks.length * 4) 4 ∧
    ∀ wz, (wz = (w11.setCells bv (ks.length * 4) LK).setCell ⟨gc, 3, none⟩ (.slice (some ⟨bv, 0, none⟩) (ks.length + 1) cap) ∨ wz = (w11.setCell ⟨gc, 3, none⟩ (.slice (some ⟨bv, 0, none⟩) (ks.length + 1) cap)).setCells bv (ks.length * 4) LK) →
      ReadAt B wz R gc gn A2 c2 l2 ok2 [.int .i64 a, .int .i64 b, .int .i64 c3, .slice (some ⟨bv, 0, none⟩) (ks.length + 1) cap] L2 ∧ Lies wz g4 Z ∧ k25.R 25 wz B okq (.slice (some ⟨bv, 0, none⟩) (ks.length + 1) cap) (ks ++ [kx]) ∧ Below B w wz := by
  have hown : (Value.slice (some ⟨bv, 0, none⟩) (ks.length + 1) cap).ownBlock = some bv := rfl
  rw [hown] at hat
  have hbq : okq bv := hRA.1 bv hown
  have hbB : B ≤ bv := Kd.R_base hRA bv hown
  obtain ⟨nR, nc, nn, n4⟩ := hokq bv hbq
  have bad0 : ∀ g, (∀ k, okq k → k ≠ g) → ¬ (some g = v0.ownBlock) := fun g h e => h g (hv0 g e.symm).1 rfl
  have hk0 := Kept.of_grown hg
  have hR11 : ReadAt B w11 R gc gn A2 c2 l2 ok2 [.int .i64 a, .int .i64 b, .int .i64 c3, v0] L2 := hR.kept hk0 (fun k e => (hv0 k e.symm).2) (bad0 R fun k h => (hokq k h).1) (bad0 gc fun k h => (hokq k h).2.1) (bad0 gn fun k h => (hokq k h).2.2.1)
  have h411 : Lies w11 g4 Z := h4.kept hk0 hZ (bad0 g4 fun k h => (hokq k h).2.2.2)
  have hK11 : k25.M w11 B okK kx LK := Kd.M_step hk (fun k h hlt => hg.block k hlt (hokK k h).2.2)
  have hKb : ∀ k, okK k → okq k ∧ k ≠ bv := fun k h => ⟨(hokK k h).1, fun e => by
    rcases hat with hat | ⟨q, hq, hle⟩
    · exact (hokK k h).2.2 (by rw [e]; exact hat)
    · injection hq with hq
      have := (hokK k h).2.1
      omega⟩
  obtain ⟨t1, r1, g1⟩ := put_last hRA hK11 hKb
  have hk7 : Kept (fun k => k = bv) w11 (w11.setCells bv (ks.length * 4) LK) := kept_setCells bv _ LK w11
  have hR7 := hR11.kept hk7 (fun k e => by rw [show k = bv from e]; exact hbB) (fun e => nR (show R = bv from e).symm) (fun e => nc (show gc = bv from e).symm) (fun e => nn (show gn = bv from e).symm)
  have h47 := h411.kept hk7 hZ (fun e => n4 (show g4 = bv from e).symm)
  have hB7 := below_setCells' bv hbB LK (ks.length * 4) w11 hB
  have hR9 := hR11.setOne 3 (by simp) (.slice (some ⟨bv, 0, none⟩) (ks.length + 1) cap)
  have hRA9 : k25.R 25 (w11.setCell ⟨gc, 3, none⟩ (.slice (some ⟨bv, 0, none⟩) (ks.length + 1) cap)) B okq (.slice (some ⟨bv, 0, none⟩) (ks.length + 1) cap) (ks ++ [z25]) := Kd.R_far hRA (p := ⟨gc, 3, none⟩) (fun k h => (hokq k h).2.1) _
  have hK9 : k25.M (w11.setCell ⟨gc, 3, none⟩ (.slice (some ⟨bv, 0, none⟩) (ks.length + 1) cap)) B okK kx LK := Kd.M_far hK11 (p := ⟨gc, 3, none⟩) (fun k h => (hokq k (hokK k h).1).2.1) _
  obtain ⟨t2, r2, g2⟩ := put_last hRA9 hK9 hKb
  have hB9 := hB.setCell (p := ⟨gc, 3, none⟩) hR.at1 (.slice (some ⟨bv, 0, none⟩) (ks.length + 1) cap)
  refine ⟨t1, hR11.one.frozen 3 (by simp), ⟨hR7.one.cell (i := 3) rfl, hR7.one.frozen 3 (by simp)⟩, t2, fun wz hwz => ?_⟩
  rcases hwz with rfl | rfl
  · exact ⟨hR7.setOne 3 (by simp) _, h47.set_far hn4.2.1 _ _, Kd.R_far r1 (p := ⟨gc, 3, none⟩) (fun k h => (hokq k h).2.1) _, hB7.setCell (p := ⟨gc, 3, none⟩) hR.at1 _⟩
  · have hk8 := kept_setCells bv (ks.length * 4) LK (w11.setCell ⟨gc, 3, none⟩ (.slice (some ⟨bv, 0, none⟩) (ks.length + 1) cap))
    exact ⟨hR9.kept hk8 (fun k e => by rw [show k = bv from e]; exact hbB) (fun e => nR (show R = bv from e).symm) (fun e => nc (show gc = bv from e).symm) (fun e => nn (show gn = bv from e).symm),
      (h411.set_far hn4.2.1 3 (.slice (some ⟨bv, 0, none⟩) (ks.length + 1) cap)).kept hk8 hZ (fun e => n4 (show g4 = bv from e).symm), r2, below_setCells' bv hbB LK _ _ hB9⟩
theorem build_run0' {P : Program} {o : Oper} {a : Act} {W : World} {t : TypeId} {v : Value} (ho : o.op = .build t #[]) (hr : (Instr.build t #[]).run P W = .ok v W) : (execOp a.eval o).run P W = .ok (.value v) W := by
  unfold execOp
  simp only [ho, List.map_toArray, List.map_nil, Sem.run_bind, hr, Result.andThen_ok, Sem.run_pure]
theorem slice_event' {P : Program} {ops : Array Oper} {rest : List Oper} {o : Oper} {a : Act} {Q : Exit → Act → World → Prop} {W : World} (hgd : o.guard = none) {N : Tmp} (_hd : o.dst = some N) {cs : Array Value} {t : TypeId} {n c : Nat}
    (hrun : (execOp a.eval o).run P W = .ok (.value (.slice (some ⟨W.heap.size, 0, none⟩) n c)) (W.alloc (.cells cs t (0, 0))))
    (h : ∀ g, g = W.heap.size → ∀ w1, w1.heap[g]? = some (.cells cs t (0, 0)) → Below W.heap.size W w1 → wpList P ops Q rest (a.put o.dst (.slice (some ⟨g, 0, none⟩) n c)) w1) : wpList P ops Q (o :: rest) a W :=
  Kd.event_run hgd hrun (h _ rfl _ (blk_new W _) (below_alloc (Below.refl _ _) _))
end Go.Proofs.Ytilckocpgififaa.G

/- code.taken: bytes are taken as a call (laid by mktaken.py). -/
namespace Go.Proofs.Ytilckocpgififaa.G
open Go.RowKit Go.Shelf Go.Proofs.YtilckocpgififaaW.PrintWords Go.Proofs.YtilckocpgififaaW.PrintLast Go.Proofs.YtilckocpgififaaW.PrintMore Go.Proofs.Ytilckocpgififaa.PNum
set_option linter.unusedVariables false
set_option linter.unusedSimpArgs false
section
variable {P : Program} {ops : Array Oper} {md : Region.Mode} {Q : Exit → Act → World → Prop} {S : World → Prop} {ds : List Nat}
/-- Two that may come up, behind neither of which anything is to be shown. -/
theorem two_l {i j : Nat} {Ni Nj : Option Tmp} {oi oj : Oper} {fuel : Nat} {l : Array Bool} {a : Act} {w : World} (li lj : Array Bool) (hi : ops[i]? = some oi) (hj : ops[j]? = some oj) (hNi : oi.dst = Ni) (hNj : oj.dst = Nj)
    (hc : (Region.ready md ops l == [i, j] && l.setIfInBounds i true == li && l.setIfInBounds j true == lj) = true) (hdi : i ∈ ds) (hdj : j ∈ ds)
    (h1 : ∀ K : Act → World → Prop, Shut (∀ a' w', wpAnyLast P md ops Q S ds fuel li a' w' → K a' w') → if Region.wanted oi (yielded ops a.tmps) = true then Oper.wp P oi a w K Q else K (a.put Ni undef) w)
    (h2 : ∀ K : Act → World → Prop, Shut (∀ a' w', wpAnyLast P md ops Q S ds fuel lj a' w' → K a' w') → if Region.wanted oj (yielded ops a.tmps) = true then Oper.wp P oj a w K Q else K (a.put Nj undef) w) :
    wpAnyLast P md ops Q S ds (fuel + 1) l a w := by
  subst hNi
  subst hNj
  simp only [Bool.and_eq_true, beq_iff_eq] at hc
  obtain ⟨⟨h3, h4⟩, h5⟩ := hc
  subst h4
  subst h5
  exact wpAnyLast_ready h3 (by simp) (AllReadyL.cons_last hi hdi (fun K hK => h1 K hK) (AllReadyL.cons_last hj hdj (fun K hK => h2 K hK) AllReadyL.nil))
end
/-- What comes behind a kid. -/
def nextK (dec : List Int → Option S25) : Option S25 → Nat → List Int → Bool → List S25 → Option (List S25 × List Int × Bool)
  | none, _, _, _, _ => none
  | some k, n, l, ok, acc => kidsA dec n l ok (acc ++ [k])
theorem kidsA_next (dec : List Int → Option S25) (n : Nat) (l : List Int) (ok : Bool) (acc : List S25) : kidsA dec (n + 1) l ok acc = nextK dec (dec (rowT l).1) n (l.drop (rowT l).2.1) (ok && (rowT l).2.2) acc := by
  rw [kidsA]
  cases dec (rowT l).1 <;> rfl
/-- What comes behind all kids. -/
def endK (a b c : Int) : Option (List S25 × List Int × Bool) → Option S25
  | none => none
  | some (ks, r, ok) => if (ok && decide (r.length = 0)) = true then some ⟨a, b, c, ks⟩ else none
theorem takenF_end (f : Nat) (l : List Int) (h : headOk l = true) (hn : ¬ kidsN l > 4) : takenF (f + 1) l = endK (valT l) (valT (restT l)) (valT (restT (restT l))) (kidsA (takenF f) (kidsN l).toNat (bodyT l) true []) := by
  rw [takenF, if_neg (by rw [h]; simp; omega)]
  cases kidsA (takenF f) (kidsN l).toNat (bodyT l) true [] <;> rfl
theorem places_cells {w : World} {gp t gc gn : Nat} (h : w.heap[gp]? = some (.cells #[.pointer (some ⟨gc, 0, none⟩), .pointer (some ⟨gc, 1, none⟩), .pointer (some ⟨gc, 2, none⟩), .pointer (some ⟨gn, 0, none⟩)] t (0, 0))) :
    ∀ i (hi : i < placesC.length), w.cell? ⟨gp, i, none⟩ = some (.pointer (some ⟨if (placesC[i]).1 = true then gc else gn, (placesC[i]).2, none⟩)) := by
  have hL : Lies w gp [.pointer (some ⟨gc, 0, none⟩), .pointer (some ⟨gc, 1, none⟩), .pointer (some ⟨gc, 2, none⟩), .pointer (some ⟨gn, 0, none⟩)] := Lies.box h
  intro i hi
  have : i = 0 ∨ i = 1 ∨ i = 2 ∨ i = 3 := by have : placesC.length = 4 := rfl; omega
  rcases this with rfl | rfl | rfl | rfl <;> exact hL.cell rfl
theorem places_in {L1 L2 : List Value} (h1 : L1.length = 4) (h2 : L2.length = 1) : ∀ i (h : i < placesC.length), (placesC[i]).2 < (if (placesC[i]).1 = true then L1 else L2).length := by
  intro i hi
  have : i = 0 ∨ i = 1 ∨ i = 2 ∨ i = 3 := by have : placesC.length = 4 := rfl; omega
  rcases this with rfl | rfl | rfl | rfl <;> simp [placesC, h1, h2]
def taken_r12.T : Bool × List (List Nat × List Nat) := (true, [([], []), ([0], [0]), ([], []), ([1], [1]), ([], []), ([1, 4, 0, 1, 2, 3, 4], [1, 4]), ([5, 3, 0, 1, 2, 3, 4, 5], [3, 5]), ([6, 2, 5, 0, 1, 2, 3, 4, 5], [2, 6]), ([0, 1, 2, 3, 4, 5], []), ([8, 5, 5, 0, 1, 2, 3, 4, 5], [5, 8])])
def taken_r12.B : List Nat := [0, 1, 0, 3, 0, 31, 63, 127, 63, 319]
theorem taken_r12.tab : rtab .any (opsOf Try.f52 12) = taken_r12.T := by kernel_rfl
theorem taken_r12.bits : waitsOk taken_r12.T.2 taken_r12.B = true := by kernel_rfl
def taken_r14.T : Bool × List (List Nat × List Nat) := (true, [([], []), ([], []), ([1], [1]), ([0, 2, 0], [0]), ([2, 3, 0, 1, 2, 3], [2])])
def taken_r14.B : List Nat := [0, 0, 2, 7, 15]
theorem taken_r14.tab : rtab .any (opsOf Try.f52 14) = taken_r14.T := by kernel_rfl
theorem taken_r14.bits : waitsOk taken_r14.T.2 taken_r14.B = true := by kernel_rfl
def taken_r12.l0 : Array Bool := bl 10 1
def taken_r12.l1 : Array Bool := bl 10 3
def taken_r12.l2 : Array Bool := bl 10 7
def taken_r12.l3 : Array Bool := bl 10 15
def taken_r12.l4 : Array Bool := bl 10 31
def taken_r12.l5 : Array Bool := bl 10 63
def taken_r12.l6 : Array Bool := bl 10 127
def taken_r12.l7 : Array Bool := bl 10 383
def taken_r12.l8 : Array Bool := bl 10 1023
def taken_r12.l9 : Array Bool := bl 10 511
def taken_r12.l10 : Array Bool := bl 10 895
def taken_r14.l0 : Array Bool := bl 5 1
def taken_r14.l1 : Array Bool := bl 5 3
def taken_r14.l2 : Array Bool := bl 5 7
def taken_r14.l3 : Array Bool := bl 5 15
def taken_r14.l4 : Array Bool := bl 5 31
set_option maxRecDepth 100000 in
set_option maxHeartbeats 32000000 in
theorem taken_step (f : Nat) (d : Int) (hd : d + f = 4) (hd0 : 0 ≤ d) (ih : ∀ g, f = g + 1 → TakenAt g (d + 1)) : TakenAt f d := by
  intro A c l w hC hc hby hsh
  obtain ⟨B, hBe⟩ : ∃ B, B = w.heap.size := ⟨_, rfl⟩
  rw [← hBe]
  obtain ⟨Z, hZ⟩ : ∃ Z, Z = zeroC := ⟨_, rfl⟩
  have hZl : Z.length = 4 := by rw [hZ]; rfl
  have hZo : ∀ v ∈ Z, v.oneCell' = true := by rw [hZ]; intro v hv; simp [zeroC] at hv; rcases hv with rfl | rfl | rfl | rfl <;> rfl
  have HAL : Aside0 (∀ w, (zeroValue 25).run Try.prog w = .ok (.agg Z.toArray) w) := ⟨fun w => by rw [hZ]; exact zero_runC w⟩
  have HBZ : Aside0 (∀ w, (Instr.build 25 #[]).run Try.prog w = .ok (.agg Z.toArray) w) := ⟨fun w => by rw [hZ]; exact run_build w _ _ _ built_call⟩
  have HZl := Aside0.mk hZl
  have HZo := Aside0.mk hZo
  have HZ := Aside0.mk hZ
  have HC := Aside0.mk hC
  have Hc := Aside0.mk hc
  have Hby := Aside0.mk hby
  have Hsh := Aside0.mk hsh
  have HBe := Aside0.mk hBe
  have HIH := Aside0.mk ih
  have Hfar : Aside0 (∀ ad, A = some ad → 0 < l.length → ad.block < B) := ⟨fun ad e hn => by rw [hBe]; subst e; exact Kd.C_lt hC hn (by decide)⟩
  clear hZ hZl hZo hC hby hsh hBe ih
  go_enter Try.func52, Try.ntmps52
  go_upto_region 1 with ((with_reducible refine gate_dst (N := 4) rfl ?_); refine box_event ?hg (N := 4) ?hd (cs := Z.toArray) (t := 25) ?hr ?_; (case hd => rfl); (case hg => rfl); (case hr => first | (simp [execOp, Instr.alloc, HAL.out, newVar, newRow, go_sem]; done) | (simp [execOp, Instr.alloc, HAL.out, newVar, newRow, go_sem]; rfl) | (go_simp; done) | (go_simp; rfl)); intro g4 hg_ w1 hbox_ hb_; have h4_ : Lies w1 g4 Z := Lies.box hbox_; have G4 := Aside0.mk hg_; have L41 := Aside0.mk h4_; have B1 := Aside0.mk hb_; clear h4_; clear hg_ hbox_ hb_)
  go_upto_region 2 with ((with_reducible refine gate_dst (N := 13) rfl ?_); refine box_event ?hg (N := 13) ?hd (cs := #[.slice A l.length c, .bool true]) (t := 73) ?hr ?_; (case hd => rfl); (case hg => rfl); (case hr => first | (simp [execOp, Instr.alloc, HAL.out, newVar, newRow, go_sem]; done) | (simp [execOp, Instr.alloc, HAL.out, newVar, newRow, go_sem]; rfl) | (go_simp; done) | (go_simp; rfl)); intro R hg_ w2 hbox_ hb_; have hr_ : Lies w2 R [.slice A l.length c, .bool true] := Lies.box hbox_; have GR := Aside0.mk hg_; have LR2 := Aside0.mk hr_; have B2 := Aside0.mk hb_; clear hr_; clear hg_ hbox_ hb_)
  go_upto_region 3 with (first
    | ((with_reducible refine gate_dst (N := 14) rfl ?_); refine Kd.event_run (v := .agg Z.toArray) (w1 := w2) rfl (build_run0' rfl (HBZ.out w2)) ?_)
    | ((with_reducible refine gate_dst (N := 7) rfl ?_); refine box_event ?hg (N := 7) ?hd (cs := Z.toArray) (t := 25) ?hr ?_; (case hd => rfl); (case hg => rfl); (case hr => first | (simp [execOp, Instr.alloc, HAL.out, newVar, newRow, go_sem]; done) | (simp [execOp, Instr.alloc, HAL.out, newVar, newRow, go_sem]; rfl) | (go_simp; done) | (go_simp; rfl)); intro gc hg_ w3 hbox_ hb_; have hr_ : Lies w3 gc Z := Lies.box hbox_; have GC := Aside0.mk hg_; have LC3 := Aside0.mk hr_; have B3 := Aside0.mk hb_; clear hr_; clear hg_ hbox_ hb_)
    | ((with_reducible refine gate_store (t := 25) (p := 7) rfl ?_); refine wpList_store_mid rfl 25 _ _ rfl gc 0 Z.toArray rfl rfl (by rw [List.size_toArray]; exact LC3.out.there) (by rw [List.size_toArray, HZl.out]; exact info_call) (all_oneCell_toArray HZo.out) ?_))
  have hgc4 : B ≤ g4 := by have := G4.out; have := HBe.out; omega
  have s1 := B1.out.size
  have s2 := B2.out.size
  have s3 := B3.out.size
  have g4lt : g4 < w1.heap.size := L41.out.lt (by rw [HZl.out]; decide)
  have Rlt : R < w2.heap.size := LR2.out.lt (by simp)
  have gclt : gc < w3.heap.size := LC3.out.lt (by rw [HZl.out]; decide)
  have e4 := G4.out
  have eR := GR.out
  have eC := GC.out
  have eB := HBe.out
  have n0_ : Lies (w3.setCells gc 0 Z) gc Z := by have := LC3.out.splice 0 Z (by omega); rwa [List.take_zero, List.nil_append, List.drop_of_length_le (by omega), List.append_nil] at this
  have k0_ : Kept (fun k => k = gc) w3 (w3.setCells gc 0 Z) := kept_setCells gc 0 Z w3
  have b0_ : Below B w (w3.setCells gc 0 Z) := below_setCells' gc (by omega) Z 0 w3 (by rw [eB]; exact below_step (below_step B1.out B2.out) B3.out)
  have m4_ := ((L41.out.below B2.out g4lt).below B3.out (by omega)).kept k0_ (by rw [HZl.out]; decide) (by show ¬ g4 = gc; omega)
  have mR_ := (LR2.out.below B3.out Rlt).kept k0_ (by simp) (by show ¬ R = gc; omega)
  have z4_ : w3.heap.size ≤ (w3.setCells gc 0 Z).heap.size := k0_.size
  generalize World.setCells _ _ _ _ = w4 at n0_ k0_ b0_ m4_ mR_ z4_ ⊢
  have LC4 := Aside0.mk n0_
  have L44 := Aside0.mk m4_
  have LR4 := Aside0.mk mR_
  have B04 := Aside0.mk b0_
  have Hlt : Aside0 (B ≤ g4 ∧ g4 < R ∧ R < gc ∧ gc < w4.heap.size ∧ B ≤ w4.heap.size) := ⟨by omega, by omega, by omega, by omega, by omega⟩
  clear n0_ k0_ b0_ m4_ mR_ z4_ s1 s2 s3 g4lt Rlt gclt e4 eR eC eB hgc4
  go_upto_region 4 with ((with_reducible refine gate_dst (N := 8) rfl ?_); refine box_event ?hg (N := 8) ?hd (cs := #[.int .i64 0]) (t := 3) ?hr ?_; (case hd => rfl); (case hg => rfl); (case hr => first | (simp [execOp, Instr.alloc, HAL.out, newVar, newRow, go_sem]; done) | (simp [execOp, Instr.alloc, HAL.out, newVar, newRow, go_sem]; rfl) | (go_simp; done) | (go_simp; rfl)); intro gn hg_ w5 hbox_ hb_; have hr_ : Lies w5 gn [.int .i64 0] := Lies.box hbox_; have GN := Aside0.mk hg_; have LN5 := Aside0.mk hr_; have B5 := Aside0.mk hb_; have s8 := hr_.cell (i := 0) (v := .int .i64 0) rfl; have f8 := hr_.frozen 0 (by simp); clear hr_; clear hg_ hbox_ hb_)
  have n0_ : Lies (w5.setCell ⟨gn, 0, none⟩ (.int .i64 0)) gn [.int .i64 0] := LN5.out.set 0 (by simp) _
  have hln := Hlt.out
  have egn := GN.out
  have gnlt : gn < w5.heap.size := LN5.out.lt (by simp)
  have s5 := B5.out.size
  have b0_ : Below B w (w5.setCell ⟨gn, 0, none⟩ (.int .i64 0)) := (B04.out.trans (B5.out.mono (by omega))).setCell (p := ⟨gn, 0, none⟩) (by show B ≤ gn; omega) _
  have m4_ := (L44.out.below B5.out (by omega)).set_far (b := gn) (by omega) 0 (.int .i64 0)
  have mR_ := (LR4.out.below B5.out (by omega)).set_far (b := gn) (by omega) 0 (.int .i64 0)
  have mC_ := (LC4.out.below B5.out (by omega)).set_far (b := gn) (by omega) 0 (.int .i64 0)
  have z_ : (w5.setCell ⟨gn, 0, none⟩ (.int .i64 0)).heap.size = w5.heap.size := by rw [World.size_setCell]
  clear s8 f8
  generalize World.setCell _ _ _ = w5a at n0_ b0_ m4_ mR_ mC_ z_ ⊢
  have hC5 : Kd.C (Kd.int .u8) w5a A l.length l := Kd.C_below HC.out (by rw [← HBe.out]; exact b0_)
  have hra : ReadAt B w5a R gc gn A c l true Z [.int .i64 0] := ⟨mR_, Hc.out, hC5, Hfar.out, Hby.out, Hsh.out, mC_, n0_, by omega, by omega, by omega, by omega, by omega, by omega, by rw [HZl.out]; decide, by simp⟩
  have HRA := Aside0.mk hra
  have L45 := Aside0.mk m4_
  have B05 := Aside0.mk b0_
  have Hlt5 : Aside0 (gn < w5a.heap.size ∧ g4 < w5a.heap.size ∧ gc < gn) := ⟨by omega, by omega, by omega⟩
  clear n0_ b0_ m4_ mR_ mC_ z_ hC5 hra hln egn gnlt s5
  go_upto_region 5 with (first
    | ((with_reducible refine gate_dst (N := 19) rfl ?_); refine slice_event' ?hg (N := 19) ?hd (cs := #[.pointer (some ⟨gc, 0, none⟩), .pointer (some ⟨gc, 1, none⟩), .pointer (some ⟨gc, 2, none⟩), .pointer (some ⟨gn, 0, none⟩)]) (t := 75) (n := 4) (c := 4) ?hr ?_; (case hd => rfl); (case hg => rfl); (case hr => first | (go_simp; done) | (go_simp; rfl)); intro gp hg_ w5b hbox_ hb_; have hpc_ := places_cells hbox_; have hpl_ := blk_lt hbox_; have HPC := Aside0.mk hpc_; have HPL := Aside0.mk hpl_; have GP := Aside0.mk hg_; have B5b := Aside0.mk hb_; clear hg_ hbox_ hb_ hpc_ hpl_)
    | (go_at_call 43; go_loud (have hN_ := (nums_calls B R gc gn gp 4 placesC A c l true Z [.int .i64 0] w5b (HRA.out.below B5b.out) (places_in HZl.out rfl) HPC.out ⟨HPL.out, by have := GP.out; have := HRA.out.reader.lt (by simp); omega, by have := GP.out; have := HRA.out.one.lt HRA.out.p1; omega, by have := GP.out; have := Hlt5.out; omega⟩ (by decide)); rw [show placesC.length = 4 from rfl] at hN_; with_reducible refine hN_.mono ?_; clear hN_; rintro e w6 ⟨rfl, ⟨A', c', hr_⟩, hk_⟩; rw [HZ.out, numsW_head] at hr_; have HR6 := Aside0.mk hr_; have HK6 := Aside0.mk hk_; clear hr_ hk_)))
  have b6_ : Below B w w6 := HK6.out.to_below (B05.out.trans (B5b.out.mono (by have := B05.out.size; have := Hlt.out; have := HBe.out; omega))) (by have := B05.out.size; have := B5b.out.size; have := HBe.out; omega) (fun k hk => by have := HRA.out.atR; have := HRA.out.at1; have := HRA.out.at2; rcases hk with hk | hk | hk <;> omega)
  have m4_ : Lies w6 g4 Z := (L45.out.below B5b.out Hlt5.out.2.1).kept HK6.out (by rw [HZl.out]; decide) (fun hk => by have := Hlt.out; have := Hlt5.out; rcases hk with hk | hk | hk <;> omega)
  have L46 := Aside0.mk m4_
  have B06 := Aside0.mk b6_
  clear b6_ m4_ HK6 B5b GP HPC HPL L45 B05
  have G4n : Aside0 (B ≤ g4) := ⟨Hlt.out.1⟩
  have Hne : Aside0 (g4 ≠ R ∧ g4 ≠ gc ∧ g4 ≠ gn) := ⟨by have := Hlt.out; omega, by have := Hlt.out; omega, by have := Hlt.out; have := Hlt5.out; omega⟩
  obtain ⟨a, ha⟩ : ∃ v, v = valT l := ⟨_, rfl⟩
  obtain ⟨b, hb⟩ : ∃ v, v = valT (restT l) := ⟨_, rfl⟩
  obtain ⟨c3, hc3⟩ : ∃ v, v = valT (restT (restT l)) := ⟨_, rfl⟩
  obtain ⟨n, hn⟩ : ∃ v, v = kidsN l := ⟨_, rfl⟩
  obtain ⟨body, hbody⟩ : ∃ v, v = bodyT l := ⟨_, rfl⟩
  obtain ⟨hok, hhok⟩ : ∃ v, v = headOk l := ⟨_, rfl⟩
  have hR6 := HR6.out
  rw [← ha, ← hb, ← hc3, ← hn, ← hbody, ← hhok] at hR6
  replace HR6 := Aside0.mk hR6
  obtain ⟨LC, hLC⟩ : ∃ LC : List Value, LC = [.int .i64 a, .int .i64 b, .int .i64 c3, .slice none 0 0] := ⟨_, rfl⟩
  have HLC := Aside0.mk hLC
  have HLCl : Aside0 (LC.length = 4) := ⟨by rw [hLC]; rfl⟩
  have HLCo : Aside0 (∀ v ∈ LC, v.oneCell' = true) := ⟨by rw [hLC]; intro v hv; simp at hv; rcases hv with rfl | rfl | rfl | rfl <;> rfl⟩
  have q1 := hR6.reader.cell (i := 1) (v := .bool hok) rfl
  have q2 := hR6.two.cell (i := 0) (v := .int .i64 n) rfl
  have Hn0 : Aside0 (0 ≤ n) := ⟨by rw [hn]; exact (numT_range (restT_bytes (restT_bytes (restT_bytes Hby.out)))).1⟩
  have Ha := Aside0.mk ha
  have Hb := Aside0.mk hb
  have Hc3 := Aside0.mk hc3
  have Hn := Aside0.mk hn
  have Hbody := Aside0.mk hbody
  have Hhok := Aside0.mk hhok
  clear hR6 ha hb hc3 hn hbody hhok hLC
  cases hok with
  | false =>
    have hnone : takenF f l = none := by
      cases f with
      | zero => rfl
      | succ g => rw [takenF, if_pos (.inl Hhok.out.symm)]
    have HNO := Aside0.mk hnone
    clear hnone
    go_wp2_with (first
      | ((with_reducible refine gate_dst (N := 34) rfl ?_); refine wpList_load_mid rfl 25 _ rfl gc 0 rfl LC _ (by have := HR6.out.one.range; rw [← HLC.out] at this; exact this) Try.underlying25 rfl (by rw [HLCl.out]; exact info_call) ?_)
      | ((with_reducible refine gate_store (t := 25) (p := 4) rfl ?_); refine wpList_store_mid rfl 25 _ _ rfl g4 0 LC.toArray rfl rfl (by rw [List.size_toArray, HLCl.out]; exact L46.out.part_there 0 4 (by rw [HZl.out]; decide)) (by rw [List.size_toArray, HLCl.out]; exact info_call) (all_oneCell_toArray HLCo.out) ?_))
    have BR := World.rangeAt_setCells_same w6 g4 0 LC (by rw [HLCl.out]; exact L46.out.part_there 0 4 (by rw [HZl.out]; decide))
    have hres := run_loadVar_mid (P := Try.prog) (w6.setCells g4 0 LC) g4 0 25 LC _ BR Try.underlying25 rfl (by rw [HLCl.out]; exact info_call)
    refine bodyPost_ret (results_cell_tmp rfl _ rfl hres) rfl ?_
    refine ⟨⟨LC, by rw [HNO.out]; rfl, HLCl.out, HLCo.out, fun x hx => by rw [HNO.out] at hx; cases hx⟩, below_setCells' g4 G4n.out LC 0 w6 B06.out⟩
  | true =>
  by_cases h4 : n > 4
  · have d4 : decide (n > 4) = true := decide_eq_true h4
    have hnone : takenF f l = none := by
      cases f with
      | zero => rfl
      | succ g => rw [takenF, if_pos (.inr (by rw [← Hn.out]; exact h4))]
    have HNO := Aside0.mk hnone
    clear hnone
    go_wp2_with (first
      | ((with_reducible refine gate_dst (N := 34) rfl ?_); refine wpList_load_mid rfl 25 _ rfl gc 0 rfl LC _ (by have := HR6.out.one.range; rw [← HLC.out] at this; exact this) Try.underlying25 rfl (by rw [HLCl.out]; exact info_call) ?_)
      | ((with_reducible refine gate_store (t := 25) (p := 4) rfl ?_); refine wpList_store_mid rfl 25 _ _ rfl g4 0 LC.toArray rfl rfl (by rw [List.size_toArray, HLCl.out]; exact L46.out.part_there 0 4 (by rw [HZl.out]; decide)) (by rw [List.size_toArray, HLCl.out]; exact info_call) (all_oneCell_toArray HLCo.out) ?_))
    have BR := World.rangeAt_setCells_same w6 g4 0 LC (by rw [HLCl.out]; exact L46.out.part_there 0 4 (by rw [HZl.out]; decide))
    have hres := run_loadVar_mid (P := Try.prog) (w6.setCells g4 0 LC) g4 0 25 LC _ BR Try.underlying25 rfl (by rw [HLCl.out]; exact info_call)
    refine bodyPost_ret (results_cell_tmp rfl _ rfl hres) rfl ?_
    refine ⟨⟨LC, by rw [HNO.out]; rfl, HLCl.out, HLCo.out, fun x hx => by rw [HNO.out] at hx; cases hx⟩, below_setCells' g4 G4n.out LC 0 w6 B06.out⟩
  have d4 : decide (n > 4) = false := decide_eq_false h4
  by_cases h3 : d > 3
  · have d3 : decide (d > 3) = true := decide_eq_true h3
    have hnone : takenF f l = none := by
      cases f with
      | zero => rfl
      | succ g => omega
    have HNO := Aside0.mk hnone
    clear hnone
    go_wp2_with (first
      | ((with_reducible refine gate_dst (N := 34) rfl ?_); refine wpList_load_mid rfl 25 _ rfl gc 0 rfl LC _ (by have := HR6.out.one.range; rw [← HLC.out] at this; exact this) Try.underlying25 rfl (by rw [HLCl.out]; exact info_call) ?_)
      | ((with_reducible refine gate_store (t := 25) (p := 4) rfl ?_); refine wpList_store_mid rfl 25 _ _ rfl g4 0 LC.toArray rfl rfl (by rw [List.size_toArray, HLCl.out]; exact L46.out.part_there 0 4 (by rw [HZl.out]; decide)) (by rw [List.size_toArray, HLCl.out]; exact info_call) (all_oneCell_toArray HLCo.out) ?_))
    have BR := World.rangeAt_setCells_same w6 g4 0 LC (by rw [HLCl.out]; exact L46.out.part_there 0 4 (by rw [HZl.out]; decide))
    have hres := run_loadVar_mid (P := Try.prog) (w6.setCells g4 0 LC) g4 0 25 LC _ BR Try.underlying25 rfl (by rw [HLCl.out]; exact info_call)
    refine bodyPost_ret (results_cell_tmp rfl _ rfl hres) rfl ?_
    refine ⟨⟨LC, by rw [HNO.out]; rfl, HLCl.out, HLCo.out, fun x hx => by rw [HNO.out] at hx; cases hx⟩, below_setCells' g4 G4n.out LC 0 w6 B06.out⟩
  have d3 : decide (d > 3) = false := decide_eq_false h3
  obtain ⟨g, rfl⟩ : ∃ g, f = g + 1 := ⟨f - 1, by omega⟩
  have HI := Aside0.mk (HIH.out g rfl)
  have dw : wrap64 (d + 1) = d + 1 := by unfold wrap64; omega
  obtain ⟨okk, hokk⟩ : ∃ okk : Nat → Prop, okk = fun k => k ≠ R ∧ k ≠ gc ∧ k ≠ gn ∧ k ≠ g4 := ⟨_, rfl⟩
  have Hokk := Aside0.mk hokk
  have Htf : Aside0 (takenF (g + 1) l = endK a b c3 (kidsA (takenF g) n.toNat body true [])) := ⟨by
    rw [takenF_end g l Hhok.out.symm (by rw [← Hn.out]; exact h4), ← Hn.out, ← Hbody.out, ← Ha.out, ← Hb.out, ← Hc3.out]⟩
  clear hokk d4 d3 h3 LC HLC HLCl HLCo
  go_upto_region 7 with (fail)
  clear q1
  go_wp2
  go_loopw [36] (fun i wr => ∃ x : Int, i = .int .i64 x ∧ (0 ≤ x ∧ x ≤ n) ∧
      Aside0 (∃ A' c' l' ok' ks v3, ReadAt B wr R gc gn A' c' l' ok' [.int .i64 a, .int .i64 b, .int .i64 c3, v3] [.int .i64 n] ∧ Lies wr g4 Z ∧ k25.R 25 wr B okk v3 ks ∧ ks.length = x.toNat ∧
        kidsA (takenF g) (n - x).toNat l' ok' ks = kidsA (takenF g) n.toNat body true []) ∧ Aside0 (Below B w wr))
    (fun i _ => n.toNat - (intOf i).toNat)
  case atStart => exact ⟨0, rfl, ⟨by omega, Hn0.out⟩, ⟨A', c', body, true, [], .slice none 0 0, HR6.out, L46.out, Kd.R_nil _ _ _ _ _, rfl, by rw [Int.sub_zero]⟩, B06⟩
  case round =>
  clear HR6 L46 B06 q2
  clear A' c'
  obtain ⟨x, rfl, ⟨hx0, hx1⟩, HV, HG⟩ := hrel
  obtain ⟨A', c', l', ok', ks, v3, hRE, h4E, hRK, hkl, hE⟩ := HV.out
  obtain ⟨A3, cc3, hv3, hcc3, _⟩ := Kd.R_reads hRK
  subst hv3
  obtain ⟨LC, hLC⟩ : ∃ LC : List Value, LC = [.int .i64 a, .int .i64 b, .int .i64 c3, .slice A3 ks.length cc3] := ⟨_, rfl⟩
  have HLC := Aside0.mk hLC
  have HLCl : Aside0 (LC.length = 4) := ⟨by rw [hLC]; rfl⟩
  have HLCo : Aside0 (∀ v ∈ LC, v.oneCell' = true) := ⟨by rw [hLC]; intro v hv; simp at hv; rcases hv with rfl | rfl | rfl | rfl <;> rfl⟩
  have HRE := Aside0.mk hRE
  have H4E := Aside0.mk h4E
  have HRK0 := Aside0.mk hRK
  have HKL := Aside0.mk hkl
  have HE := Aside0.mk hE
  clear hRE h4E hRK hkl hE HV hLC hcc3
  by_cases hlt : x < n
  · have d0 : decide (x < n) = true := decide_eq_true hlt
    have xw : wrap64 (x + 1) = x + 1 := by unfold wrap64; omega
    obtain ⟨p, hp⟩ : ∃ p, (rowT l').1 = p := ⟨_, rfl⟩
    obtain ⟨l2, hl2⟩ : ∃ q, l'.drop (rowT l').2.1 = q := ⟨_, rfl⟩
    obtain ⟨ok2, hok2⟩ : ∃ q, (ok' && (rowT l').2.2) = q := ⟨_, rfl⟩
    obtain ⟨r, hr⟩ : ∃ r, takenF g p = r := ⟨_, rfl⟩
    have hrow := row_calls B R gc gn A' c' l' ok' _ _ wr HRE.out
    rw [hp, hl2, hok2] at hrow
    have HROW := Aside0.mk hrow
    have hps := rowT_size HRE.out.bytes
    rw [hp] at hps
    have hsh' := HRE.out.short
    have HPB : Aside0 (IsBytes p ∧ p.length < 140737488355328) := ⟨hps.2.2, by omega⟩
    have hstep : kidsA (takenF g) (n - x).toNat l' ok' ks = nextK (takenF g) r (n - (x + 1)).toNat l2 ok2 ks := by
      rw [show (n - x).toNat = (n - (x + 1)).toNat + 1 by omega, kidsA_next, hp, hl2, hok2, hr]
    have HST := Aside0.mk hstep
    have HR := Aside0.mk hr
    have hBw : B ≤ wr.heap.size := by have := HG.out.size; have := HBe.out; omega
    have HBw := Aside0.mk hBw
    have q0 := HRE.out.two.cell (i := 0) (v := .int .i64 n) rfl
    clear hrow hps hsh' hstep hr hBw hp hl2 hok2
    go_upto_region 10 with (first
      | (go_at_call 45; go_loud (with_reducible refine HROW.out.mono ?_; rintro e w7 ⟨⟨A1, c1, rfl, hc1_, hC1_, hf1_⟩, ⟨A2, c2, hr2_⟩, hk_⟩; have HC1 := Aside0.mk hc1_; have HCP := Aside0.mk hC1_; have HR7 := Aside0.mk hr2_; have HK7 := Aside0.mk hk_; clear hc1_ hC1_ hf1_ hr2_ hk_))
      | (go_at_call 52; go_loud (have hT_ := HI.out A1 c1 p w7 HCP.out HC1.out HPB.out.1 HPB.out.2; with_reducible refine hT_.mono ?_; clear hT_; rintro e w8 ⟨⟨LK, rfl, hl_, ho_, hm_⟩, hb_⟩; rw [HR.out] at hm_ ⊢; have HLKl := Aside0.mk hl_; have HLKo := Aside0.mk ho_; have HMK := Aside0.mk hm_; have B8 := Aside0.mk hb_; clear hl_ ho_ hm_ hb_))
      | ((with_reducible refine gate_dst (N := 9) rfl ?_); refine box_event ?hg (N := 9) ?hd (cs := Z.toArray) (t := 25) ?hr ?_; (case hd => rfl); (case hg => rfl); (case hr => first | (simp [execOp, Instr.alloc, HAL.out, newVar, newRow, go_sem]; done) | (simp [execOp, Instr.alloc, HAL.out, newVar, newRow, go_sem]; rfl) | (go_simp; done) | (go_simp; rfl)); intro gk hg_ w9 hbox_ hb_; have hr_ : Lies w9 gk Z := Lies.box hbox_; have GK := Aside0.mk hg_; have LK9 := Aside0.mk hr_; have B9 := Aside0.mk hb_; clear hr_; clear hg_ hbox_ hb_)
      | ((with_reducible refine gate_store (t := 25) (p := 9) rfl ?_); refine wpList_store_mid rfl 25 _ _ rfl gk 0 LK.toArray rfl rfl (by rw [List.size_toArray, HLKl.out]; exact LK9.out.part_there 0 4 (by rw [HZl.out]; decide)) (by rw [List.size_toArray, HLKl.out]; exact info_call) (all_oneCell_toArray HLKo.out) ?_))
    have z7 := HK7.out.size
    have z8 := B8.out.size
    have z9 := B9.out.size
    have ek := GK.out
    have bw := HBw.out
    have hlt4 := Hlt.out
    have hlt5 := Hlt5.out
    have Rl := HR7.out.reader.lt (by simp)
    have gcl := HR7.out.one.lt HR7.out.p1
    have gnl := HR7.out.two.lt HR7.out.p2
    have n0_ : Lies (w9.setCells gk 0 LK) gk LK := by have := LK9.out.splice 0 LK (by rw [HLKl.out, HZl.out]; decide); rwa [List.take_zero, List.nil_append, List.drop_of_length_le (by rw [HLKl.out, HZl.out]; decide), List.append_nil] at this
    have k9_ : Kept (fun k => k = gk) w9 (w9.setCells gk 0 LK) := kept_setCells gk 0 LK w9
    have r0_ := ((HR7.out.below B8.out).below B9.out).kept k9_ (fun k hk => by have hk' : k = gk := hk; omega) (by show ¬ R = gk; omega) (by show ¬ gc = gk; omega) (by show ¬ gn = gk; omega)
    have m7_ : Lies w7 g4 Z := H4E.out.kept HK7.out (by rw [HZl.out]; decide) (by show ¬ g4 = R; exact Hne.out.1)
    have g4l := m7_.lt (by rw [HZl.out]; decide)
    have m0_ := ((m7_.below B8.out g4l).below B9.out (by omega)).kept k9_ (by rw [HZl.out]; decide) (by show ¬ g4 = gk; omega)
    have rk7_ : k25.R 25 w7 B okk (.slice A3 ks.length cc3) ks := Kd.R_step HRK0.out (fun k ho hl => HK7.out.block k hl (by rw [Hokk.out] at ho; exact ho.1))
    have own7_ : ∀ k, (Value.slice A3 ks.length cc3).ownBlock = some k → k < w7.heap.size := fun k hk => (Kd.R_bound rk7_).1 k hk |>.2.2.1
    have rk9_ := Kd.R_below (Kd.R_below rk7_ B8.out) B9.out
    have rk0_ : k25.R 25 (w9.setCells gk 0 LK) B (fun k => okk k ∧ k ≠ gk) (.slice A3 ks.length cc3) ks := by
      have h8 := Kd.R_below rk7_ B8.out
      have h8b : k25.R 25 w8 B (fun k => okk k ∧ k < w8.heap.size) (.slice A3 ks.length cc3) ks := Kd.R_mono (Kd.R_bound h8) (fun k h => ⟨h.1, h.2.2.1⟩)
      have h9 := Kd.R_below h8b B9.out
      exact Kd.R_mono (Kd.R_step h9 (fun k ho hl => k9_.block k hl (by show ¬ k = gk; have := ho.2; omega))) (fun k h => ⟨h.1, by have := h.2; omega⟩)
    have b0_ : Below B w (w9.setCells gk 0 LK) := below_setCells' gk (by omega) LK 0 w9 (((HK7.out.to_below HG.out bw (fun k hk => by have hk' : k = R := hk; omega)).trans (B8.out.mono (by omega))).trans (B9.out.mono (by omega)))
    have mk_ : ∀ kx, r = some kx → k25.M (w9.setCells gk 0 LK) B (fun k => w7.heap.size ≤ k ∧ k < w8.heap.size) kx LK := fun kx hx => by
      have h8 := HMK.out kx hx
      have h8b : k25.M w8 B (fun k => w7.heap.size ≤ k ∧ k < w8.heap.size) kx LK := k25.M_lower (by omega) (k25.M_mono (fun k h => ⟨h.2.1, h.2.2.1⟩) (k25.M_bound h8))
      exact Kd.M_step (Kd.M_below h8b B9.out) (fun k ho hl => k9_.block k hl (by show ¬ k = gk; omega))
    have z0_ := k9_.size
    generalize World.setCells _ _ _ _ = w10 at n0_ k9_ r0_ m0_ rk0_ b0_ mk_ z0_ ⊢
    have HLK := Aside0.mk n0_
    have HR10 := Aside0.mk r0_
    have L410 := Aside0.mk m0_
    have HRK := Aside0.mk rk0_
    have B010 := Aside0.mk b0_
    have HM10 := Aside0.mk mk_
    have HS10 : Aside0 (w8.heap.size ≤ w10.heap.size ∧ w7.heap.size ≤ w8.heap.size ∧ B ≤ w7.heap.size ∧ R < w7.heap.size ∧ gc < w7.heap.size ∧ gn < w7.heap.size ∧ g4 < w7.heap.size ∧ gk < w10.heap.size) := ⟨by omega, by omega, by omega, Rl, gcl, gnl, g4l, n0_.lt (by rw [HLKl.out]; decide)⟩
    have HOWN := Aside0.mk own7_
    have HGKn : Aside0 (B ≤ gk ∧ w8.heap.size ≤ gk) := ⟨by omega, by omega⟩
    clear n0_ k9_ r0_ m7_ m0_ rk7_ own7_ rk9_ rk0_ b0_ mk_ z0_ z7 z8 z9 ek bw hlt4 hlt5 Rl gcl gnl g4l
    cases r with
    | none =>
      have hnn : takenF (g + 1) l = none := by rw [Htf.out, ← HE.out, HST.out]; rfl
      have HNN := Aside0.mk hnn
      clear hnn
      go_wp2_with (first
        | ((with_reducible refine gate_dst (N := 48) rfl ?_); refine wpList_load_mid rfl 25 _ rfl gc 0 rfl LC _ (by have := HR10.out.one.range; rw [← HLC.out] at this; exact this) Try.underlying25 rfl (by rw [HLCl.out]; exact info_call) ?_)
        | ((with_reducible refine gate_store (t := 25) (p := 4) rfl ?_); refine wpList_store_mid rfl 25 _ _ rfl g4 0 LC.toArray rfl rfl (by rw [List.size_toArray, HLCl.out]; exact L410.out.part_there 0 4 (by rw [HZl.out]; decide)) (by rw [List.size_toArray, HLCl.out]; exact info_call) (all_oneCell_toArray HLCo.out) ?_))
      have BR := World.rangeAt_setCells_same w10 g4 0 LC (by rw [HLCl.out]; exact L410.out.part_there 0 4 (by rw [HZl.out]; decide))
      have hres := run_loadVar_mid (P := Try.prog) (w10.setCells g4 0 LC) g4 0 25 LC _ BR Try.underlying25 rfl (by rw [HLCl.out]; exact info_call)
      refine bodyPost_ret (results_cell_tmp rfl _ rfl hres) rfl ?_
      refine ⟨⟨LC, by rw [HNN.out]; rfl, HLCl.out, HLCo.out, fun x hx => by rw [HNN.out] at hx; cases hx⟩, below_setCells' g4 G4n.out LC 0 w10 B010.out⟩
    | some kx =>
      have hnx : kidsA (takenF g) (n - (x + 1)).toNat l2 ok2 (ks ++ [kx]) = kidsA (takenF g) n.toNat body true [] := by rw [← HE.out, HST.out]; rfl
      have HNX := Aside0.mk hnx
      obtain ⟨okg, hokg⟩ : ∃ okg : Nat → Prop, okg = fun k => okk k ∧ k ≠ gk := ⟨_, rfl⟩
      have HRKd : Aside0 (k25.R 25 w10.drew B okg (.slice A3 ks.length cc3) ks) := ⟨by rw [hokg]; exact Kd.R_step HRK.out (fun k _ _ => rfl)⟩
      have HBd : Aside0 (Below B w w10.drew) := ⟨below_drew B010.out⟩
      have HFR : Aside0 (∀ k, w10.drew.heap.size ≤ k → okg k) := ⟨fun k hk => by
        have hk' : w10.heap.size ≤ k := hk
        have := HS10.out
        rw [hokg, Hokk.out]
        refine ⟨⟨?_, ?_, ?_, ?_⟩, ?_⟩ <;> omega⟩
      have HKL4 : Aside0 (ks.length ≤ 4) := ⟨by have := HKL.out; omega⟩
      have hoq : ∀ k, okg k → k ≠ R ∧ k ≠ gc ∧ k ≠ gn ∧ k ≠ g4 := fun k hk => by rw [hokg, Hokk.out] at hk; exact hk.1
      have hown : ∀ k, (Value.slice A3 ks.length cc3).ownBlock = some k → okg k ∧ B ≤ k := fun k hk => ⟨HRKd.out.1 k hk, Kd.R_base HRKd.out k hk⟩
      have HAP : Aside0 (∀ w11, w10.drew.grownBy w11 (Value.slice A3 ks.length cc3).ownBlock → w11.cell? ⟨gc, 3, none⟩ = some (.slice A3 ks.length cc3) ∧ w11.rangeAt gk 0 LK) := ⟨fun w11 hg => by
        have hk := Kept.of_grown hg
        exact ⟨(HR10.out.drew.one.kept hk HR10.out.p1 (fun e => (hoq gc (hown gc e.symm).1).2.1 rfl)).cell (i := 3) rfl, (HLK.out.drew.kept hk (by rw [HLKl.out]; decide) (fun e => by have := (hown gk e.symm).1; rw [hokg] at this; exact this.2 rfl)).range⟩⟩
      have HPUT := Aside0.mk (fun (w11 : World) (bv cap : Nat) (hRA : k25.R 25 w11 B okg (.slice (some ⟨bv, 0, none⟩) (ks.length + 1) cap) (ks ++ [z25])) (hB : Below B w w11) (hg : w10.drew.grownBy w11 (Value.slice A3 ks.length cc3).ownBlock)
          (hat : (Value.slice (some ⟨bv, 0, none⟩) (ks.length + 1) cap).ownBlock = (Value.slice A3 ks.length cc3).ownBlock ∨ ∃ q, (Value.slice (some ⟨bv, 0, none⟩) (ks.length + 1) cap).ownBlock = some q ∧ w10.drew.heap.size ≤ q) =>
        grow_kids (okK := fun k => w7.heap.size ≤ k ∧ k < w8.heap.size) HR10.out.drew L410.out.drew (by rw [HZl.out]; decide) Hne.out hoq (Kd.M_step (w1 := w10.drew) (HM10.out kx rfl) (fun k _ _ => rfl)) (fun k hk => by
          have := HS10.out
          have hg4 := HGKn.out
          refine ⟨?_, ?_, fun e => ?_⟩
          · rw [hokg, Hokk.out]; refine ⟨⟨?_, ?_, ?_, ?_⟩, ?_⟩ <;> omega
          · show k < w10.heap.size; omega
          · have := HOWN.out k e.symm; omega) hown hRA hB (by show B ≤ w10.heap.size; have := HS10.out; omega) hg hat)
      rw [← show okg = (fun k => okk k ∧ k ≠ gk) from hokg] at HRK
      have hmonog : ∀ k, okg k → okk k := fun k h => by rw [hokg] at h; exact h.1
      have HMG := Aside0.mk hmonog
      clear hnx hoq hown hokg hmonog
      have s3 : w10.drew.cell? ⟨gc, 3, none⟩ = some (.slice A3 ks.length cc3) := HR10.out.drew.one.cell (i := 3) rfl
      go_upto_region 12 with (fail)
      refine start_ (n := 10) (S := fun w' => w'.cell? ⟨gc, 3, none⟩ = some (.slice A3 ks.length cc3) ∧ w'.rangeAt gk 0 LK) (ds := [7, 9]) #[false, false, false, false, false, false, false, false, false, false] (by kernel_rfl) rfl rfl ⟨s3, (World.rangeAt_drew _ _ _ _).2 HLK.out.range⟩ (fun hHeld => ?_)
      refine with_tabW taken_r12.tab taken_r12.bits (fun HT_ HW_ => ?_)
      refine pu HT_ 0 (some 49) taken_r12.l0 (h := ?_)
      refine tk HT_ HW_ hHeld 1 (some 50) taken_r12.l1 (hr := by intro w' hs_; obtain ⟨s0, s1⟩ := hs_; go_simp; with_reducible rfl) (h := ?_)
      refine take_ (i := 2) (N := some 51) (v := .agg LK.toArray) (a' := ?_) taken_r12.l2 rfl rfl (take_ofW HT_.out HW_.out (by kernel_rfl)) (fun _ _ _ h => h) (Or.inl ⟨by rfl, ?_⟩) hHeld ?_ ?_
      · intro w' hs_
        exact load_runO' (ty := 25) (y := .tmp 9) (g := gk) (off := 0) (L := LK) rfl rfl hs_.2 Try.underlying25 rfl (by rw [HLKl.out]; exact info_call)
      rotate_left
      · simp only [Act.put, List.setIfInBounds_toArray, List.set_cons_zero, List.set_cons_succ, i64_w, i32_w]
        rfl
      refine pu HT_ 3 (some 52) taken_r12.l3 (h := ?_)
      refine one_ (i := 4) (N := some 53) taken_r12.l4 rfl rfl (one_of HT_.out (by kernel_rfl)) (by decide) (fun K hK => ?_)
      refine value_ (v := .slice (some ⟨w10.drew.heap.size, 0, none⟩) 1 1) (w1 := w10.drew.alloc (.cells zeroC.toArray 25)) (by rfl) rfl ?_ ?_
      · go_simp
        try rfl
      have hb_ : Below w10.drew.heap.size w10.drew (w10.drew.alloc (.cells zeroC.toArray 25)) := below_alloc (Below.refl _ _) _
      have hHeld : (w10.drew.alloc (.cells zeroC.toArray 25)).cell? ⟨gc, 3, none⟩ = some (.slice A3 ks.length cc3) ∧ (w10.drew.alloc (.cells zeroC.toArray 25)).rangeAt gk 0 LK := ⟨(HR10.out.drew.below hb_).one.cell (i := 3) rfl, (HLK.out.drew.below hb_ (HLK.out.drew.lt (by rw [HLKl.out]; decide))).range⟩
      clear hb_
      refine hK.out _ _ hHeld (fun hHeld => ?_)
      clear hK K
      refine norm_ (a' := ?_) ?_ ?_
      rotate_left
      · show Act.put _ (some 53) _ = _
        simp only [Act.put, List.setIfInBounds_toArray, List.set_cons_zero, List.set_cons_succ, i64_w, i32_w]
        rfl
      refine one_ (i := 5) (N := some 54) taken_r12.l5 rfl rfl (one_of HT_.out (by kernel_rfl)) (by decide) (fun K hK => ?_)
      refine Kd.R_append_step k25 (w0 := w) B (by rfl) (.tmp 50) (.tmp 53) 23 25 (.agg zeroC.toArray) 48 rfl Try.underlying23 info_callz rfl (by decide) (by decide) (.slice A3 ks.length cc3) ks z25 zeroC okg (fun _ => False) rfl rfl (zero_M _ _ _) (fun _ h => h.elim) HFR.out HRKd.out HBd.out (by have := HS10.out; show B ≤ w10.heap.size; omega) (by have := HKL4.out; omega) ?_
      intro v1 w11 hR_ hb_ hg_ hat_
      obtain ⟨bv, cap, hv_, hcap_⟩ := R_shape hR_ (by simp) (by decide)
      subst hv_
      rw [List.length_append, show ([z25] : List S25).length = 1 from rfl] at hR_ hcap_ hat_ ⊢
      have hHeld : w11.cell? ⟨gc, 3, none⟩ = some (.slice A3 ks.length cc3) ∧ w11.rangeAt gk 0 LK := HAP.out _ hg_
      have HGK := Aside0.mk (HPUT.out w11 bv cap hR_ hb_ hg_ hat_)
      clear hR_ hb_ hg_ hat_
      refine hK.out _ _ hHeld (fun hHeld => ?_)
      clear hK K
      refine norm_ (a' := ?_) ?_ ?_
      rotate_left
      · show Act.put _ (some 54) _ = _
        simp only [Act.put, List.setIfInBounds_toArray, List.set_cons_zero, List.set_cons_succ, i64_w, i32_w]
        rfl
      refine pure_ (i := 6) (N := some 55) (v := .pointer (some ⟨bv, ks.length * 4, none⟩)) (a' := ?_) taken_r12.l6 rfl rfl (any_of HT_.out (by kernel_rfl)) (fun _ _ _ h => h) (Or.inl ⟨by rfl, ?_⟩) ?_ ?_
      · intro w'
        go_simp
        intro h_; exfalso; omega
      rotate_left
      · simp only [Act.put, List.setIfInBounds_toArray, List.set_cons_zero, List.set_cons_succ, i64_w, i32_w]
        rfl
      refine pu HT_ 8 (some 56) taken_r12.l7 (h := ?_)
      refine two_l (i := 7) (j := 9) (Ni := none) (Nj := none) taken_r12.l9 taken_r12.l10 rfl rfl rfl rfl (two_of HT_.out (by kernel_rfl)) (by decide) (by decide) (fun K hK => ?_) (fun K hK => ?_)
      · refine skip_ (w1 := w11.setCells bv (ks.length * 4) LK) (by rfl) rfl ?_ ?_
        · exact store_runO' (x := .tmp 55) (y := .tmp 51) (off := ks.length * 4) rfl rfl rfl (by rw [HLKl.out]; exact HGK.out.1) (by rw [HLKl.out]; exact info_call) HLKo.out
        refine hK.out _ _ ?_
        clear hK K
        have q3 := HGK.out.2.2.1.1
        have f3 := HGK.out.2.2.1.2
        refine last_ (i := 9) (N := none) taken_r12.l8 rfl rfl (one_of HT_.out (by kernel_rfl)) (by decide) (fun K hK => ?_)
        refine skip_ (w1 := (w11.setCells bv (ks.length * 4) LK).setCell ⟨gc, 3, none⟩ (.slice (some ⟨bv, 0, none⟩) (ks.length + 1) cap)) (by rfl) rfl ?_ ?_
        · go_simp
        refine hK.out _ _ ?_
        clear hK K q3 f3
        have HFN := Aside0.mk (HGK.out.2.2.2.2 _ (.inl rfl))
        generalize World.setCell _ _ _ = wz at HFN ⊢
        refine done_ (done_of HT_.out (by kernel_rfl)) ?_
        clear HT_ HW_ hHeld
        go_wp2
        exact ⟨⟨x + 1, by first | rfl | (rw [xw]) | (simp [xw]), ⟨by omega, by omega⟩, ⟨A2, c2, l2, ok2, ks ++ [kx], .slice (some ⟨bv, 0, none⟩) (ks.length + 1) cap, HFN.out.1, HFN.out.2.1, Kd.R_mono HFN.out.2.2.1 HMG.out, by rw [List.length_append]; have := HKL.out; have e1 : ([kx] : List S25).length = 1 := rfl; omega, HNX.out⟩, ⟨HFN.out.2.2.2⟩⟩, by simp [intOf]; omega⟩
      · have q3 := hHeld.1
        have f3 := HGK.out.2.1
        refine skip_ (w1 := w11.setCell ⟨gc, 3, none⟩ (.slice (some ⟨bv, 0, none⟩) (ks.length + 1) cap)) (by rfl) rfl ?_ ?_
        · go_simp
        refine hK.out _ _ ?_
        clear hK K q3 f3
        refine last_ (i := 7) (N := none) taken_r12.l8 rfl rfl (one_of HT_.out (by kernel_rfl)) (by decide) (fun K hK => ?_)
        refine skip_ (w1 := (w11.setCell ⟨gc, 3, none⟩ (.slice (some ⟨bv, 0, none⟩) (ks.length + 1) cap)).setCells bv (ks.length * 4) LK) (by rfl) rfl ?_ ?_
        · exact store_runO' (x := .tmp 55) (y := .tmp 51) (off := ks.length * 4) rfl rfl rfl (by rw [HLKl.out]; exact HGK.out.2.2.2.1) (by rw [HLKl.out]; exact info_call) HLKo.out
        refine hK.out _ _ ?_
        clear hK K
        have HFN := Aside0.mk (HGK.out.2.2.2.2 _ (.inr rfl))
        generalize World.setCells _ _ _ _ = wz at HFN ⊢
        refine done_ (done_of HT_.out (by kernel_rfl)) ?_
        clear HT_ HW_ hHeld
        go_wp2
        exact ⟨⟨x + 1, by first | rfl | (rw [xw]) | (simp [xw]), ⟨by omega, by omega⟩, ⟨A2, c2, l2, ok2, ks ++ [kx], .slice (some ⟨bv, 0, none⟩) (ks.length + 1) cap, HFN.out.1, HFN.out.2.1, Kd.R_mono HFN.out.2.2.1 HMG.out, by rw [List.length_append]; have := HKL.out; have e1 : ([kx] : List S25).length = 1 := rfl; omega, HNX.out⟩, ⟨HFN.out.2.2.2⟩⟩, by simp [intOf]; omega⟩
  · have d0 : decide (x < n) = false := decide_eq_false hlt
    have hx9 : x = n := by omega
    subst hx9
    have hE := HE.out
    rw [Int.sub_self] at hE
    have hE' : kidsA (takenF g) x.toNat body true [] = some (ks, l', ok') := hE.symm
    obtain ⟨fl, hfl⟩ : ∃ fl, (ok' && decide (l'.length = 0)) = fl := ⟨_, rfl⟩
    have HTF : Aside0 (takenF (g + 1) l = if fl = true then some ⟨a, b, c3, ks⟩ else none) := ⟨by rw [Htf.out, hE', ← hfl]; rfl⟩
    have hwh := whole_calls B R gc gn A' c' l' ok' _ _ wr.drew HRE.out.drew
    rw [hfl] at hwh
    have HWH := Aside0.mk hwh
    clear hwh hfl
    clear hE hE' hlt d0
    · have d0 : decide (x < x) = false := decide_eq_false (by omega)
      go_upto_region 14 with (fail)
      refine start_ (n := 5) (S := fun w' => w'.rangeAt gc 0 LC) (ds := [3]) #[false, false, false, false, false] (by kernel_rfl) rfl rfl (by have := HRE.out.drew.one.range; rw [← HLC.out] at this; exact this) (fun hHeld => ?_)
      refine with_tabW taken_r14.tab taken_r14.bits (fun HT_ HW_ => ?_)
      refine take_ (i := 0) (N := some 58) (v := .agg LC.toArray) (a' := ?_) taken_r14.l0 rfl rfl (take_ofW HT_.out HW_.out (by kernel_rfl)) (fun _ _ _ h => h) (Or.inl ⟨by rfl, ?_⟩) hHeld ?_ ?_
      · intro w' hs_
        exact load_runO' (ty := 25) (y := .tmp 7) (g := gc) (off := 0) (L := LC) rfl rfl hs_ Try.underlying25 rfl (by rw [HLCl.out]; exact info_call)
      rotate_left
      · simp only [Act.put, List.setIfInBounds_toArray, List.set_cons_zero, List.set_cons_succ, i64_w, i32_w]
        rfl
      refine pu HT_ 1 (some 59) taken_r14.l1 (h := ?_)
      refine one_ (i := 2) (N := some 60) taken_r14.l2 rfl rfl (one_of HT_.out (by kernel_rfl)) (by decide) (fun K hK => ?_)
      refine goes_ Try.func46 (by kernel_rfl) rfl #[.pointer (some ⟨R, 0, none⟩)] (by rfl) rfl rfl (by (try simp only [List.map_toArray, List.map_cons, List.map_nil]); first | done | rfl) ?_
      refine (HWH.out).mono ?_
      rintro e w12 ⟨rfl, rfl⟩
      refine ⟨_, rfl, ?_⟩
      refine hK.out _ _ hHeld (fun hHeld => ?_)
      clear hK K
      refine norm_ (a' := ?_) ?_ ?_
      rotate_left
      · show Act.put _ (some 60) _ = _
        simp only [Act.put, List.setIfInBounds_toArray, List.set_cons_zero, List.set_cons_succ, i64_w, i32_w]
        rfl
      refine last_ (i := 3) (N := none) taken_r14.l3 rfl rfl (one_of HT_.out (by kernel_rfl)) (by decide) (fun K hK => ?_)
      refine skip_ (w1 := wr.drew.setCells g4 0 LC) (by rfl) rfl ?_ ?_
      · exact store_runO' (x := .tmp 4) (y := .tmp 58) (off := 0) rfl rfl rfl (by rw [HLCl.out]; exact H4E.out.drew.part_there 0 4 (by rw [HZl.out]; decide)) (by rw [HLCl.out]; exact info_call) HLCo.out
      refine hK.out _ _ ?_
      clear hK K
      refine pu HT_ 4 (some 5) taken_r14.l4 (h := ?_)
      refine done_ (done_of HT_.out (by kernel_rfl)) ?_
      clear HT_ HW_ hHeld
      go_wp2
      have BR := World.rangeAt_setCells_same wr.drew g4 0 LC (by rw [HLCl.out]; exact H4E.out.drew.part_there 0 4 (by rw [HZl.out]; decide))
      have hres := run_loadVar_mid (P := Try.prog) (wr.drew.setCells g4 0 LC) g4 0 25 LC _ BR Try.underlying25 rfl (by rw [HLCl.out]; exact info_call)
      refine bodyPost_ret (results_cell_tmp rfl _ rfl hres) rfl ?_
      refine ⟨⟨LC, ?_, HLCl.out, HLCo.out, fun y hy => ?_⟩, below_setCells' g4 G4n.out LC 0 wr.drew (below_drew HG.out)⟩
      · rw [HTF.out]; cases fl <;> rfl
      · rw [HTF.out] at hy
        have hM := k25_mkM (wr.drew.setCells g4 0 LC) B (fun _ => True) ⟨a, b, c3, ks⟩ (v3 := .slice A3 ks.length cc3) (Kd.R_mono (Kd.R_step HRK0.out (fun k ho hl => (kept_setCells g4 0 LC wr.drew).block k hl (by rw [Hokk.out] at ho; exact ho.2.2.2))) (fun _ _ => trivial))
        cases fl with
        | false => cases hy
        | true =>
          obtain rfl := Option.some.inj hy
          rw [HLC.out]
          rw [HLC.out] at hM
          exact hM
theorem taken_at : ∀ (f : Nat) (d : Int), d + f = 4 → 0 ≤ d → TakenAt f d := by
  intro f
  induction f with
  | zero => intro d hd h0; exact taken_step 0 d hd h0 (fun g hg => by omega)
  | succ f ih =>
    intro d hd h0
    refine taken_step (f + 1) d hd h0 (fun g hg => ?_)
    have e : f = g := by omega
    subst e
    exact ih (d + 1) (by omega) (by omega)
end Go.Proofs.Ytilckocpgififaa.G
