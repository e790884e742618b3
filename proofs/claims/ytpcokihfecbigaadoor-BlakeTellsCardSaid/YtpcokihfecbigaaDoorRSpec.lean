/- the reference's block: what it computes, in plain Lean (laid by mkref.py). -/
import Derived.Test.YtpcokihfecbigaaDoorBBlock
import Derived.Test.YtpcokihfecbigaaDoorRMix
import Derived.Test.YtpcokihfecbigaaDoorGx1
namespace Go.Proofs.YtpcokihfecbigaaDoor.G
open Go.RowKit Go.Proofs.YtpcokihfecbigaaDoorW.PrintWords Go.Proofs.YtpcokihfecbigaaDoorW.PrintLast Go.Proofs.YtpcokihfecbigaaDoorW.PrintMore
set_option linter.unusedVariables false
set_option linter.unusedSimpArgs false

/-- A word of a block, the bytes taken from the last one down; j of them so far. -/
def wordP (p : List Int) (i : Nat) : Nat → Int
  | 0 => 0
  | j + 1 => Go.bits .or .u64 (shl .u64 (wordP p i j) 8) (p.getD (8 * i + (7 - j)) 0)
def mTo (p : List Int) (x j : Nat) : List Int := (List.range 16).map fun t => if t < x then wordP p t 8 else if t = x then wordP p t j else 0
def wordsR (p : List Int) : List Int := (List.range 16).map fun t => wordP p t 8
theorem mTo_length (p : List Int) (x j : Nat) : (mTo p x j).length = 16 := by simp [mTo]
theorem mTo_get (p : List Int) (x j : Nat) (hx : x < 16) : (mTo p x j).getD x 0 = wordP p x j := by
  unfold mTo
  rw [List.getD_eq_getElem?_getD, List.getElem?_map, List.getElem?_range hx]
  simp
theorem mTo_set (p : List Int) (x j : Nat) : (mTo p x j).set x (wordP p x (j + 1)) = mTo p x (j + 1) := by
  refine List.ext_getElem? fun t => ?_
  unfold mTo
  rw [List.getElem?_set]
  by_cases ht : t < 16
  · rw [List.length_map, List.length_range]
    rw [List.getElem?_map, List.getElem?_range ht, List.getElem?_map, List.getElem?_range ht]
    by_cases e : x = t
    · subst e
      rw [if_pos rfl, if_pos ht]
      simp
    · rw [if_neg e]
      simp only [Option.map_some]
      rw [if_neg (show ¬ t = x from fun h => e h.symm), if_neg (show ¬ t = x from fun h => e h.symm)]
  · rw [List.length_map, List.length_range, List.getElem?_eq_none (by simp; omega), List.getElem?_eq_none (by simp; omega)]
    split
    · rw [if_neg (by omega)]
    · rfl
theorem mTo_next (p : List Int) (x : Nat) : mTo p x 8 = mTo p (x + 1) 0 := by
  unfold mTo
  refine List.map_congr_left fun t _ => ?_
  by_cases h1 : t < x
  · rw [if_pos h1, if_pos (by omega)]
  · rw [if_neg h1]
    by_cases h2 : t = x
    · rw [if_pos h2, if_pos (by omega)]
    · rw [if_neg h2, if_neg (by omega)]
      split <;> rfl
theorem mTo_zero (p : List Int) : mTo p 0 0 = zero16 := by
  unfold mTo zero16
  refine List.ext_getElem? fun t => ?_
  by_cases ht : t < 16
  · rw [List.getElem?_map, List.getElem?_range ht, List.getElem?_replicate, if_pos ht]
    simp
    intro h; subst h; rfl
  · rw [List.getElem?_eq_none (by simp; omega), List.getElem?_eq_none (by simp; omega)]
theorem mTo_all (p : List Int) : mTo p 16 0 = wordsR p := by
  unfold mTo wordsR
  refine List.map_congr_left fun t ht => ?_
  rw [if_pos (List.mem_range.1 ht)]
def vTo (H : List Int) (x : Nat) : List Int := (List.range 16).map fun t => if t < 8 then (if t < x then H.getD t 0 else 0) else (if t < x + 8 then beginV.getD (t - 8) 0 else 0)
theorem vTo_length (H : List Int) (x : Nat) : (vTo H x).length = 16 := by simp [vTo]
theorem vTo_zero (H : List Int) : vTo H 0 = zero16 := by
  unfold vTo zero16
  refine List.ext_getElem? fun t => ?_
  by_cases ht : t < 16
  · rw [List.getElem?_map, List.getElem?_range ht, List.getElem?_replicate, if_pos ht]
    simp only [Option.map_some, Option.some.injEq]
    by_cases h8 : t < 8
    · rw [if_pos h8, if_neg (by omega)]
    · rw [if_neg h8, if_neg (by omega)]
  · rw [List.getElem?_eq_none (by simp; omega), List.getElem?_eq_none (by simp; omega)]
theorem vTo_set (H : List Int) (x : Nat) (hx : x < 8) : ((vTo H x).set x (H.getD x 0)).set (x + 8) (beginV.getD x 0) = vTo H (x + 1) := by
  refine List.ext_getElem? fun t => ?_
  by_cases ht : t < 16
  · rw [List.getElem?_set, List.getElem?_set]
    unfold vTo
    simp only [List.length_set, List.length_map, List.length_range]
    rw [List.getElem?_map, List.getElem?_range ht, List.getElem?_map, List.getElem?_range ht]
    by_cases e1 : x + 8 = t
    · subst e1
      rw [if_pos rfl, if_pos ht]
      simp only [Option.map_some]
      rw [if_neg (by omega), if_pos (by omega)]
      rw [show x + 8 - 8 = x by omega]
    · rw [if_neg e1]
      by_cases e2 : x = t
      · subst e2
        rw [if_pos rfl, if_pos ht]
        simp only [Option.map_some]
        rw [if_pos hx, if_pos (by omega)]
      · rw [if_neg e2]
        simp only [Option.map_some, Option.some.injEq]
        by_cases h8 : t < 8
        · rw [if_pos h8, if_pos h8]
          by_cases h3 : t < x
          · rw [if_pos h3, if_pos (by omega)]
          · rw [if_neg h3, if_neg (by omega)]
        · rw [if_neg h8, if_neg h8]
          by_cases h3 : t < x + 8
          · rw [if_pos h3, if_pos (by omega)]
          · rw [if_neg h3, if_neg (by omega)]
  · rw [List.getElem?_eq_none (by simp [vTo]; omega), List.getElem?_eq_none (by simp [vTo]; omega)]
theorem vTo_all (H : List Int) (h : H.length = 8) : vTo H 8 = H ++ beginV := by
  have hb : beginV.length = 8 := rfl
  refine List.ext_getElem? fun t => ?_
  unfold vTo
  by_cases ht : t < 16
  · rw [List.getElem?_map, List.getElem?_range ht]
    simp only [Option.map_some]
    by_cases h8 : t < 8
    · rw [if_pos h8, if_pos h8, List.getElem?_append_left (by omega), List.getD_eq_getElem?_getD, List.getElem?_eq_getElem (by omega)]; rfl
    · rw [if_neg h8, if_pos (by omega), List.getElem?_append_right (by omega), h, List.getD_eq_getElem?_getD, List.getElem?_eq_getElem (by omega)]; rfl
  · rw [List.getElem?_eq_none (by simp; omega), List.getElem?_eq_none (by simp [hb, h]; omega)]
def halfA (M : List Int) (P : List Nat) (V : List Int) (k : Nat) : List Int := ref_mix.f V k (k + 4) (k + 8) (k + 12) (M.getD (P.getD (2 * k) 0) 0) (M.getD (P.getD (2 * k + 1) 0) 0)
def halfB (M : List Int) (P : List Nat) (V : List Int) (k : Nat) : List Int := ref_mix.f V k (4 + (k + 1) % 4) (8 + (k + 2) % 4) (12 + (k + 3) % 4) (M.getD (P.getD (8 + 2 * k) 0) 0) (M.getD (P.getD (9 + 2 * k) 0) 0)
theorem ref_mix_length (V : List Int) (a b c d : Nat) (x y : Int) : (ref_mix.f V a b c d x y).length = V.length := by
  unfold ref_mix.f
  simp only [List.foldl_cons, List.foldl_nil, ref_mix.step_length]
def runA (M : List Int) (P : List Nat) (l : List Nat) (V : List Int) : List Int := l.foldl (halfA M P) V
def runB (M : List Int) (P : List Nat) (l : List Nat) (V : List Int) : List Int := l.foldl (halfB M P) V
def roundR (M : List Int) (P : List Nat) (V : List Int) : List Int := runB M P (List.range 4) (runA M P (List.range 4) V)
theorem runA_length (M : List Int) (P : List Nat) : ∀ (l : List Nat) (V : List Int), (runA M P l V).length = V.length
  | [], _ => rfl
  | k :: l, V => (runA_length M P l _).trans (ref_mix_length _ _ _ _ _ _ _)
theorem runB_length (M : List Int) (P : List Nat) : ∀ (l : List Nat) (V : List Int), (runB M P l V).length = V.length
  | [], _ => rfl
  | k :: l, V => (runB_length M P l _).trans (ref_mix_length _ _ _ _ _ _ _)
def roundsR (M : List Int) : List Nat → List Int → List Int
  | [], V => V
  | i :: l, V => roundsR M l (roundR M (permOf (i % 10)) V)
theorem roundsR_length (M : List Int) : ∀ (l : List Nat) (V : List Int), (roundsR M l V).length = V.length
  | [], _ => rfl
  | i :: l, V => (roundsR_length M l _).trans ((runB_length _ _ _ _).trans (runA_length _ _ _ _))
theorem runA_rest (M V R : List Int) (P : List Nat) (k : Nat) (hk : k < 4) (h : runA M P (List.range' k (4 - k)) V = R) : runA M P (List.range' (k + 1) (4 - (k + 1))) (halfA M P V k) = R := by
  rw [show 4 - k = (4 - (k + 1)) + 1 by omega, List.range'_succ] at h
  exact h
theorem runB_rest (M V R : List Int) (P : List Nat) (k : Nat) (hk : k < 4) (h : runB M P (List.range' k (4 - k)) V = R) : runB M P (List.range' (k + 1) (4 - (k + 1))) (halfB M P V k) = R := by
  rw [show 4 - k = (4 - (k + 1)) + 1 by omega, List.range'_succ] at h
  exact h
theorem roundsR_rest (M V R : List Int) (k : Nat) (hk : k < 12) (h : roundsR M (List.range' k (12 - k)) V = R) : roundsR M (List.range' (k + 1) (12 - (k + 1))) (roundR M (permOf (k % 10)) V) = R := by
  rw [show 12 - k = (12 - (k + 1)) + 1 by omega, List.range'_succ, roundsR] at h
  exact h
def outR (V : List Int) : List Nat → List Int → List Int
  | [], H => H
  | i :: l, H => outR V l (H.set i (Go.bits .xor .u64 (Go.bits .xor .u64 (H.getD i 0) (V.getD i 0)) (V.getD (i + 8) 0)))
theorem outR_length (V : List Int) : ∀ (l : List Nat) (H : List Int), (outR V l H).length = H.length
  | [], _ => rfl
  | i :: l, H => (outR_length V l _).trans (by simp)
theorem outR_rest (V H R : List Int) (k : Nat) (hk : k < 8) (h : outR V (List.range' k (8 - k)) H = R) : outR V (List.range' (k + 1) (8 - (k + 1))) (H.set k (Go.bits .xor .u64 (Go.bits .xor .u64 (H.getD k 0) (V.getD k 0)) (V.getD (k + 8) 0))) = R := by
  rw [show 8 - k = (8 - (k + 1)) + 1 by omega, List.range'_succ, outR] at h
  exact h
def vInitR (H : List Int) (cnt : Int) (last : Bool) : List Int :=
  let v := H ++ beginV
  let v := v.set 12 (Go.bits .xor .u64 (v.getD 12 0) cnt)
  if last then v.set 14 (notU (v.getD 14 0)) else v
/-- The reference's words behind a block. -/
def blockR (H p : List Int) (cnt : Int) (last : Bool) : List Int := outR (roundsR (wordsR p) (List.range 12) (vInitR H (wr cnt) last)) (List.range 8) H
theorem blockR_length (H p : List Int) (cnt : Int) (last : Bool) : (blockR H p cnt last).length = H.length := outR_length _ _ _
/-- The reference's digit of a row. -/
theorem ref_order_is : ∀ x : Fin 12, althingref2_order.f (x.val : Int) = some (rowOf (x.val % 10)) := by decide +kernel
theorem ref_digit_is : ∀ (j : Fin 10) (i : Fin 16), ∃ b : UInt8, (rowOf j.val)[i.val]? = some b ∧ althingref2_digit.f (b.toNat : Int) = some (((permOf j.val).getD i.val 0 : Nat) : Int) ∧ (permOf j.val).getD i.val 0 < 16 := by
  have h : ∀ (j : Fin 10) (i : Fin 16), ((rowOf j.val)[i.val]?).any (fun b => althingref2_digit.f (b.toNat : Int) == some (((permOf j.val).getD i.val 0 : Nat) : Int)) = true ∧ (permOf j.val).getD i.val 0 < 16 := by decide +kernel
  intro j i
  obtain ⟨h1, h2⟩ := h j i
  cases hb : (rowOf j.val)[i.val]? with
  | none => rw [hb] at h1; cases h1
  | some b =>
    rw [hb] at h1
    exact ⟨b, rfl, by simpa using h1, h2⟩
end Go.Proofs.YtpcokihfecbigaaDoor.G
