/- CompactShort: a number from 0 to 2^62, written in any of the seven ways, is taken where it is written in its shortest way, and is none elsewhere. -/
import Derived.Test.YtdnfknphahmofaaFrame
import Derived.Test.YtdnfknphahmofaaPKnown
import Derived.Test.YtdnfknphahmofaaGx7
namespace Go.Proofs.Ytdnfknphahmofaa.LawCompactShort
set_option linter.unusedSimpArgs false
set_option linter.unusedVariables false
open Go.ChangeShapes Go.WideShapes Go.ChangeAt Go.RowKit Go.Proofs.Ytdnfknphahmofaa.G Go.Proofs.Ytdnfknphahmofaa.PNum Go.Proofs.Ytdnfknphahmofaa.Frame Go.Proofs.YtdnfknphahmofaaW.PrintWords Go.Proofs.YtdnfknphahmofaaW.PrintMore

/-- A number written in some way: it is taken just where the way is the shortest. -/
theorem written (k : Nat) (hk : 30 ≤ k) (n c : Int) (r : List Int) (h0 : 0 ≤ n) (h1 : n ≤ 4611686018427387904) (hb : IsBytes (c :: r)) (hs : headSize c = (c :: r).length) (hl : (c :: r).length ≤ 9) (hv : valAt c (c :: r) = n) :
    althinglaw1_CompactShort.j4 k n (c :: r) = some true := by
  obtain ⟨k, rfl⟩ : ∃ q, k = q + 1 := ⟨k - 1, by omega⟩
  have ht : takeN (c :: r) = if sizeN n ≠ (c :: r).length then none else some (n, (c :: r).length) := by
    show takeAt c (c :: r) = _
    unfold takeAt
    rw [hv, hs, if_neg (by omega)]
    by_cases h : sizeN n ≠ (c :: r).length
    · rw [if_pos (Or.inr (Or.inr h)), if_pos h]
    · rw [if_neg (by intro hh; rcases hh with hh | hh | hh
                     · omega
                     · omega
                     · exact h hh), if_neg h]
  have hiff : sizeN n = (c :: r).length ↔ (c :: r) = numB n := by
    constructor
    · intro h
      rw [if_neg (by simp [h])] at ht
      have q := (takeN_tells hb ht).2.2.2.2
      rw [List.take_of_length_le (Nat.le_refl _)] at q
      exact q
    · intro h; rw [h, numB_length]
  have hc := ctake_tells k _ hb (by omega)
  rw [althinglaw1_CompactShort.j4, hc, Option.bind_some, rnum_tells k n (by omega), Option.bind_some]
  by_cases h : sizeN n = (c :: r).length
  · have e := hiff.1 h
    have hstr : (strOfNums (c :: r)).toList = (strOfNums (numB n)).toList := by rw [e]
    have ht' : takeN (c :: r) = some (n, (c :: r).length) := by rw [ht, if_neg (by simp [h])]
    rw [if_pos hstr, ht', show outT (some (n, (c :: r).length)) = (n, (((c :: r).length : Nat) : Int), true) from rfl]
    dsimp only
    rw [if_pos rfl, if_pos rfl, if_pos rfl, known_tells k (by omega)]
    rfl
  · have hstr : ¬ (strOfNums (c :: r)).toList = (strOfNums (numB n)).toList := fun hh => h (hiff.2 ((strOf_inj hb (numB_bytes n)).1 hh))
    have ht' : takeN (c :: r) = none := by rw [ht, if_pos h]
    rw [if_neg hstr, ht', show outT none = ((0 : Int), (0 : Int), false) from rfl]
    dsimp only
    rw [if_neg (by decide), if_pos rfl, if_pos rfl, known_tells k (by omega)]
    rfl

theorem loop (n : Int) (h0 : 0 ≤ n) (h1 : n ≤ 4611686018427387904) (way : Nat) (hw : 2 ≤ way) (hw6 : way ≤ 6) (d : Nat) : ∀ (k i : Nat), i + d = way + 2 →
    althinglaw1_CompactShort.l0 (k + 33 + d) n way ((4 * ((way : Int) - 2) + 3) :: lowB n i) i = some true := by
  induction d with
  | zero =>
    intro k i hi
    obtain rfl : i = way + 2 := by omega
    have hq : ∀ q : Nat, 30 ≤ q → n < 256 ^ (way + 2) → althinglaw1_CompactShort.j4 q n ((4 * ((way : Int) - 2) + 3) :: lowB n (way + 2)) = some true := by
      intro q hq hn
      have hl := lowB_length n (way + 2)
      have hs : headSize (4 * ((way : Int) - 2) + 3) = way + 3 := by unfold headSize; rw [if_neg (by omega), if_neg (by omega), if_neg (by omega)]; omega
      refine written q hq n _ _ h0 h1 ?_ (by rw [hs, List.length_cons, hl]) (by rw [List.length_cons, hl]; omega) ?_
      · intro c hc
        rcases List.mem_cons.1 hc with rfl | hc
        · omega
        · exact lowB_bytes _ _ c hc
      · unfold valAt
        rw [if_pos (by omega), hs, List.take_of_length_le (by rw [List.length_cons, hl]; omega), List.drop_one, List.tail_cons, valB_lowB _ n h0 hn]
        exact wrap_in h0 (by omega)
    have e2 : wrap64 ((way : Int) + 2) = ((way + 2 : Nat) : Int) := by rw [wrap_in (by omega) (by omega)]; omega
    have p := pos_div n (2 ^ (8 * (way + 2))) (by have : way = 2 ∨ way = 3 ∨ way = 4 ∨ way = 5 ∨ way = 6 := by omega
                                                  rcases this with x | x | x | x | x <;> rw [x] <;> decide)
    have hpow : (2 : Int) ^ (8 * (way + 2)) = 256 ^ (way + 2) := by
      have : way = 2 ∨ way = 3 ∨ way = 4 ∨ way = 5 ∨ way = 6 := by omega
      rcases this with x | x | x | x | x <;> rw [x] <;> decide
    have c0 : ¬ (((way + 2 : Nat)) : Int) < ((way + 2 : Nat) : Int) := by omega
    have c2 : (0 : Int) ≤ ((8 * (way + 2) : Nat) : Int) := by omega
    rw [show k + 33 + 0 = (k + 32) + 1 from rfl, althinglaw1_CompactShort.l0, e2, if_neg c0]
    by_cases h6 : way < 6
    · have c1 : (way : Int) < 6 := by omega
      rw [if_pos c1, u64_at (way + 2) (by omega), if_pos c2, shr_at _ _ (by omega)]
      by_cases hg : n / 2 ^ (8 * (way + 2)) > 0
      · rw [if_pos hg]
      · rw [if_neg hg]
        refine hq _ (by omega) ?_
        rw [← hpow]
        have := mt p.2 hg
        omega
    · have c1 : ¬ (way : Int) < 6 := by omega
      rw [if_neg c1]
      refine hq _ (by omega) ?_
      obtain rfl : way = 6 := by omega
      rw [pow_256_8]; omega
  | succ d ih =>
    intro k i hi
    have e1 : wrap64 ((i : Int) + 1) = ((i + 1 : Nat) : Int) := by rw [wrap_in (by omega) (by omega)]; omega
    have e2 : wrap64 ((way : Int) + 2) = ((way + 2 : Nat) : Int) := by rw [wrap_in (by omega) (by omega)]; omega
    have hl := lowB_length n i
    have c0 : (i : Int) < ((way + 2 : Nat) : Int) := by omega
    have c1 : (0 : Int) ≤ ((8 * i : Nat) : Int) := by omega
    have c2 : ((4 * ((way : Int) - 2) + 3) :: lowB n i).length < 140737488355328 := by rw [List.length_cons, hl]; omega
    rw [show k + 33 + (d + 1) = (k + 33 + d) + 1 from rfl, althinglaw1_CompactShort.l0, e2, if_pos c0, u64_at i (by omega), if_pos c1, if_pos c2, shr_at _ _ (by omega), e1, List.cons_append, ← lowB_snoc]
    exact ih k (i + 1) (by omega)

theorem pure (n way : Int) : althinglaw1_CompactShort.f 80 n way = some true := by
  have t : ∀ k, althinglaw1_CompactShort.j0 (k + 1) n way true = some true := fun k => by rw [althinglaw1_CompactShort.j0, if_pos rfl]
  unfold althinglaw1_CompactShort.f
  by_cases c0 : n < 0
  · rw [if_pos c0]; exact t 79
  · rw [if_neg c0]
    by_cases c1 : n > 4611686018427387904
    · rw [if_pos c1]; exact t 79
    · rw [if_neg c1]
      by_cases c2 : way < 0
      · rw [if_pos c2]; exact t 79
      · rw [if_neg c2]
        by_cases c3 : way > 6
        · rw [show decide (way > 6) = true from decide_eq_true c3]; exact t 79
        · rw [show decide (way > 6) = false from decide_eq_false c3, althinglaw1_CompactShort.j0, if_neg (by decide)]
          have h0 : 0 ≤ n := by omega
          have h1 : n ≤ 4611686018427387904 := by omega
          have w2 : ∀ k, way ≠ 0 → way ≠ 1 → althinglaw1_CompactShort.j2 (k + 60) n way false = some true := by
            intro k hn0 hn1
            have c4 : way ≥ 2 := by omega
            obtain ⟨w, rfl⟩ := Int.eq_ofNat_of_zero_le (show 0 ≤ way by omega)
            have e1 : wrap64 ((w : Int) - 2) = (w : Int) - 2 := wrap_in (by omega) (by omega)
            have e2 : wrap64 (((w : Int) - 2) * 4) = ((w : Int) - 2) * 4 := wrap_in (by omega) (by omega)
            have e3 : Go.bits .or .i64 (((w : Int) - 2) * 4) 3 = ((w : Int) - 2) * 4 + 3 := or_small _ _ 2 (by omega) (by omega) (by omega) (by decide) (by decide) (by decide)
            have e4 : (((w : Int) - 2) * 4 + 3) % 256 = 4 * ((w : Int) - 2) + 3 := by omega
            have hlp := loop n h0 h1 w (by omega) (by omega) (w + 2) (k + 24 - w) 0 (by omega)
            have ek : k + 24 - w + 33 + (w + 2) = k + 59 := by omega
            rw [ek] at hlp
            rw [show k + 60 = (k + 59) + 1 from rfl, althinglaw1_CompactShort.j2, if_neg (by decide), if_pos c4, e1, e2, e3, e4]
            exact hlp
          by_cases w0 : way = 0
          · rw [if_pos w0, althinglaw1_CompactShort.j1]
            by_cases hn : n < 16384
            · rw [show decide (n < 16384) = true from decide_eq_true hn, if_pos rfl]
              have e1 : wrap64 (n * 4) = n * 4 := wrap_in (by omega) (by omega)
              have e2 : Go.bits .or .i64 (n * 4) 1 = n * 4 + 1 := or_small _ _ 1 (by omega) (by omega) (by omega) (by decide) (by decide) (by decide)
              have e3 : [(n * 4 + 1) % 256, n / 64 % 256] = lowB (4 * n + 1) 2 := by simp only [lowB]; congr 1 <;> (try congr 1) <;> omega
              have hv := valB_lowB 2 (4 * n + 1) (by omega) (by rw [show (256 : Int) ^ 2 = 65536 from by decide]; omega)
              rw [e1, e2]
              refine written 78 (by decide) n _ _ h0 h1 ?_ ?_ (by simp) ?_
              · rw [e3]; exact lowB_bytes _ _
              · unfold headSize; rw [if_neg (by omega), if_pos (by omega)]; rfl
              · have hs : headSize ((n * 4 + 1) % 256) = 2 := by unfold headSize; rw [if_neg (by omega), if_pos (by omega)]
                unfold valAt
                rw [if_neg (by omega), hs, e3, List.take_of_length_le (by rw [lowB_length]; omega), hv]
                omega
            · rw [show decide (n < 16384) = false from decide_eq_false hn, if_neg (by decide), if_neg (by omega), althinglaw1_CompactShort.j2, if_neg (by decide), if_neg (by omega)]
          · rw [if_neg w0, althinglaw1_CompactShort.j1, if_neg (by decide)]
            by_cases w1 : way = 1
            · rw [if_pos w1]
              by_cases hn : n < 1073741824
              · rw [show decide (n < 1073741824) = true from decide_eq_true hn, althinglaw1_CompactShort.j2, if_pos rfl]
                have e1 : wrap64 (n * 4) = n * 4 := wrap_in (by omega) (by omega)
                have e2 : Go.bits .or .i64 (n * 4) 2 = n * 4 + 2 := or_small _ _ 2 (by omega) (by omega) (by omega) (by decide) (by decide) (by decide)
                have e3 : [(n * 4 + 2) % 256, n / 64 % 256, n / 16384 % 256, n / 4194304 % 256] = lowB (4 * n + 2) 4 := by
                  simp only [lowB]
                  rw [show (n * 4 + 2) % 256 = (4 * n + 2) % 256 from by omega, show n / 64 % 256 = (4 * n + 2) / 256 % 256 from by omega, show n / 16384 % 256 = (4 * n + 2) / 256 / 256 % 256 from by omega, show n / 4194304 % 256 = (4 * n + 2) / 256 / 256 / 256 % 256 from by omega]
                have hv := valB_lowB 4 (4 * n + 2) (by omega) (by rw [pow_256_4]; omega)
                rw [e1, e2]
                refine written 77 (by decide) n _ _ h0 h1 ?_ ?_ (by simp) ?_
                · rw [e3]; exact lowB_bytes _ _
                · unfold headSize; rw [if_neg (by omega), if_neg (by omega), if_pos (by omega)]; rfl
                · have hs : headSize ((n * 4 + 2) % 256) = 4 := by unfold headSize; rw [if_neg (by omega), if_neg (by omega), if_pos (by omega)]
                  unfold valAt
                  rw [if_neg (by omega), hs, e3, List.take_of_length_le (by rw [lowB_length]; omega), hv]
                  omega
              · rw [show decide (n < 1073741824) = false from decide_eq_false hn, althinglaw1_CompactShort.j2, if_neg (by decide), if_neg (by omega)]
            · rw [if_neg w1]
              exact w2 18 w0 w1

theorem walks : Walks 5 Try.f5 := by
  intro H enc W base args ds ps hval hA _ _ _
  rw [Try.params5] at hA hval
  obtain ⟨v0, v1, d0, d1, p0, p1, rfl, rfl, rfl, h0, h1⟩ := trodAll_two hA
  obtain ⟨a0, rfl, rfl, rfl, _⟩ := open_int Try.underlying3 (hval 0 3 v0 rfl rfl) h0
  obtain ⟨a1, rfl, rfl, rfl, _⟩ := open_int Try.underlying3 (hval 1 3 v1 rfl rfl) h1
  exact althinglaw1_CompactShort.calls 80 a0 a1 true W (pure a0 a1)
set_option maxRecDepth 100000 in
theorem rowed (os : Os) (started : os.Started) (H : Type) (enc : TypeId × Value → H) :
    ReturnsInHanded {} Try.checked os 5 .any (Rows.compactShortSpec.pre6 enc Try.prog Try.f5 Rows.compactShortRow.domain false) (Rows.compactShortSpec.post enc Try.prog Try.f5 false true false false) :=
  lifted (s := Rows.compactShortSpec) Try.func5 (by kernel_rfl) (by kernel_rfl) (by kernel_rfl) (by kernel_rfl) rfl
    (fun H ds h => by
      have h' : ds.length = 2 := h
      match ds, h' with
      | [d1, d2], _ => rfl)
    os started H enc
    (ChangeSpec.witness6 (enc := enc) (C := Try.checked) false ⟨#[], #[.int .i64 0, .int .i64 0], []⟩ 8 (by kernel_rfl) (by kernel_rfl) (by kernel_rfl) (by kernel_rfl)) walks
theorem over : Rows.compactShortRow.holds Try.pinned (OpenSpec.ofChange Rows.compactShortSpec) :=
  OpenClaim.holds_of_wide 5 Try.f5 rfl rfl rfl rfl rfl rfl rfl ⟨rfl, rfl, rfl, rfl, rfl⟩ rfl rfl rfl rfl rfl (by kernel_rfl) Try.func5 (by kernel_rfl)
    (of_decide_eq_true (by kernel_rfl)) (by unfold Func.isWrapper; first | (rw [if_pos (by decide +kernel)]; kernel_rfl) | (rw [if_neg (by decide +kernel)]; exact ⟨rfl, rfl⟩))
    (fun os started H enc _ => rowed os started H enc)
end Go.Proofs.Ytdnfknphahmofaa.LawCompactShort
namespace Go.Proofs.Ytdnfknphahmofaa
/-- The row, under a short name, for the claim. -/
theorem compactShort_holds : Rows.CompactShortSaid := LawCompactShort.over
end Go.Proofs.Ytdnfknphahmofaa

