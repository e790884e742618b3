/- CompactRows: rows that were put are told as they were; bytes that are cut tell fewer, the first ones. For rows that hold up to a million bytes and rows in all (the judge's own bound). -/
import Derived.Test.YtdnfknphahmofaaFrameUpto
import Derived.Test.YtdnfknphahmofaaPRows
import Derived.Test.YtdnfknphahmofaaHCRows
import Derived.Laws.BitsLemmas
namespace Go.Proofs.Ytdnfknphahmofaa.LawCompactRows
set_option linter.unusedSimpArgs false
set_option linter.unusedVariables false
open Go.ChangeShapes Go.WideShapes Go.ChangeAt Go.RowKit Go.Proofs.Ytdnfknphahmofaa.G Go.Proofs.Ytdnfknphahmofaa.PNum Go.Proofs.Ytdnfknphahmofaa.Frame Go.Proofs.Ytdnfknphahmofaa.ArgBytes Go.Proofs.YtdnfknphahmofaaW.PrintWords Go.Proofs.YtdnfknphahmofaaW.PrintMore Go.Proofs.YtdnfknphahmofaaW.PrintLast

theorem and_mask (x : Int) : 0 ≤ bits .and .i64 x 65535 ∧ bits .and .i64 x 65535 ≤ 65535 := by
  have h : (BitVec.ofInt 64 x &&& BitVec.ofInt 64 65535).toNat ≤ 65535 := by
    rw [BitVec.toNat_and]
    exact Nat.le_trans Nat.and_le_right (by decide)
  have e : bits .and .i64 x 65535 = IntKind.i64.wrap ((BitVec.ofInt 64 x &&& BitVec.ofInt 64 65535).toNat : Int) := rfl
  rw [e, IntKind.wrap_i64]
  omega

theorem takeN_more {l : List Int} (hl : IsBytes l) {n : Int} {s : Nat} (h : takeN l = some (n, s)) (t : List Int) : takeN (l ++ t) = some (n, s) := by
  obtain ⟨h0, h1, rfl, hs, ht⟩ := takeN_tells hl h
  have e : l ++ t = numB n ++ (l.drop (sizeN n) ++ t) := by rw [← ht, ← List.append_assoc, List.take_append_drop]
  rw [e]; exact takeN_put h0 h1 _
theorem cutN_more {l : List Int} (hl : IsBytes l) {p : List Int} {s : Nat} (h : cutN l = some (p, s)) (t : List Int) : cutN (l ++ t) = some (p, s) := by
  unfold cutN at h
  cases hT : takeN l with
  | none => rw [hT] at h; cases h
  | some x =>
    obtain ⟨n, s0⟩ := x
    rw [hT] at h
    dsimp only at h
    obtain ⟨h0, _, _, hs, _⟩ := takeN_tells hl hT
    unfold cutN
    rw [takeN_more hl hT t]
    dsimp only
    by_cases c : (l.length : Int) - s0 < n
    · rw [if_pos c] at h; cases h
    · rw [if_neg c] at h
      injection h with h
      injection h with h1 h2
      rw [if_neg (by rw [List.length_append]; omega), List.take_append_of_le_length (by omega), h1, h2]
theorem cutN_put (p t : List Int) (hp : p.length ≤ 1048576) : cutN (rowB p ++ t) = some (p, (rowB p).length) := by
  unfold cutN rowB
  rw [List.append_assoc, takeN_put (by omega) (by omega)]
  dsimp only
  rw [if_neg (by rw [List.length_append, numB_length, List.length_append]; omega), Int.toNat_natCast, List.length_append, numB_length]
  congr 2
  rw [← List.append_assoc, List.take_left' (by rw [List.length_append, numB_length]), List.drop_left' (numB_length _)]
theorem rowsL_put (l : List (List Int)) (hl : ∀ p ∈ l, p.length ≤ 1048576) : rowsL (rowsB l) = l := by
  induction l with
  | nil => exact rowsL_none (by simp [rowsB, cutN, takeN])
  | cons p l ih => rw [rowsB_cons, rowsL_some (cutN_put p _ (hl p (by simp))), List.drop_left' rfl, ih (fun q hq => hl q (by simp [hq]))]
theorem rowsL_cut (l : List (List Int)) (hl : ∀ p ∈ l, p.length ≤ 1048576) (hb : ∀ p ∈ l, IsBytes p) : ∀ c, c < (rowsB l).length → ∃ j, j < l.length ∧ rowsL ((rowsB l).take c) = l.take j := by
  induction l with
  | nil => intro c hc; simp [rowsB] at hc
  | cons p l ih =>
    intro c hc
    have hbb := rowsB_bytes hb
    have hput := cutN_put p (rowsB l) (hl p (by simp))
    rw [rowsB_cons] at hc hbb
    rw [rowsB_cons]
    by_cases h : c < (rowB p).length
    · refine ⟨0, by simp, ?_⟩
      refine rowsL_none ?_
      cases hT : cutN ((rowB p ++ rowsB l).take c) with
      | none => rfl
      | some x =>
        obtain ⟨q, s⟩ := x
        have hs := cutN_size hT
        have := cutN_more (hbb.take c) hT ((rowB p ++ rowsB l).drop c)
        rw [List.take_append_drop, hput] at this
        injection this with this
        injection this with _ h2
        rw [List.length_take] at hs
        omega
    · obtain ⟨j, hj, e⟩ := ih (fun q hq => hl q (by simp [hq])) (fun q hq => hb q (by simp [hq])) (c - (rowB p).length) (by rw [List.length_append] at hc; omega)
      refine ⟨j + 1, by simpa using hj, ?_⟩
      rw [List.take_append, List.take_of_length_le (by omega), rowsL_some (cutN_put p _ (hl p (by simp))), List.drop_left' rfl, e]
      rfl

theorem rows_tells (b : List Int) (hb : IsBytes b) (hl : b.length < 140737488355328) (hn : (rowsL b).length ≤ 10001) : althinglaw1_rows.f b = some (rowsL b, true) := by
  unfold althinglaw1_rows.f
  exact if_pos ⟨hb, hl, hn⟩

theorem mem_fits {p : List (List Int)} {q : List Int} (h : q ∈ p) : q.length ≤ rowsSize p := by
  induction p with
  | nil => cases h
  | cons x p ih =>
    rw [rowsSize_cons]
    rcases List.mem_cons.1 h with rfl | h
    · omega
    · have := ih h; omega

theorem loop1 (l : List (List Int)) (hn : l.length ≤ 3000) (j : Nat) (hj : j ≤ l.length) (d : Nat) : ∀ (k i : Nat), i + d = j → d + 50 ≤ k → althinglaw1_CompactRows.l1 k l (l.take j) i = some true := by
  have hlj : (l.take j).length = j := by rw [List.length_take]; omega
  induction d with
  | zero =>
    intro k i hi hk
    obtain ⟨k, rfl⟩ : ∃ q, k = q + 1 := ⟨k - 1, by omega⟩
    rw [althinglaw1_CompactRows.l1, if_neg (by omega), known_tells k (by omega)]
    rfl
  | succ d ih =>
    intro k i hi hk
    obtain ⟨k, rfl⟩ : ∃ q, k = q + 1 := ⟨k - 1, by omega⟩
    have e1 : wrap64 ((i : Int) + 1) = ((i + 1 : Nat) : Int) := by rw [wrap_in (by omega) (by omega)]; omega
    have e2 : rd_L1 (l.take j) (i : Int) = rd_L1 l (i : Int) := by rw [rd_L _ i (by omega), rd_L _ i (by omega), List.getElem_take]
    rw [althinglaw1_CompactRows.l1, if_pos (by omega), if_pos (by omega), if_pos (by omega), e2, if_pos rfl, e1]
    exact ih k (i + 1) (by omega) (by omega)

theorem pure (l : List (List Int)) (a : Int) (hp : ∀ q ∈ l, IsBytes q) (hs : rowsSize l ≤ 1048576) : ∃ k, althinglaw1_CompactRows.f k l a = some true := by
  have hll := length_le_rowsSize l
  have t : ∀ k, althinglaw1_CompactRows.j0 (k + 1) l a true = some true := fun k => by rw [althinglaw1_CompactRows.j0, if_pos rfl]
  obtain ⟨K, hK⟩ : ∃ K, K = l.length + 1048576 + 5000 := ⟨_, rfl⟩
  refine ⟨K + 8, ?_⟩
  unfold althinglaw1_CompactRows.f
  rw [long_tells _ l (by omega) (by omega), Option.bind_some]
  by_cases h2 : rowsSize l > 3000
  · rw [decide_eq_true h2, if_pos rfl]; exact t _
  · rw [decide_eq_false h2, if_neg (by decide)]
    by_cases h3 : l = []
    · subst h3; exact t _
    · have hne : 0 < l.length := List.length_pos_iff.2 h3
      have hz : ((l.length : Int) == 0) = false := by simp; omega
      have hfit : ∀ q ∈ l, q.length ≤ 1048576 := fun q hq => by have := mem_fits hq; omega
      have hB := rowsB_length l
      have hbb := rowsB_bytes hp
      have hrl := rowsL_put l hfit
      have hbpos : 0 < (rowsB l).length := by
        obtain ⟨q, l', rfl⟩ := List.exists_cons_of_ne_nil h3
        have := sizeN_range (q.length : Int)
        rw [rowsB_cons, List.length_append, rowB_length]; omega
      have hb0 : (((rowsB l).length : Int) == 0) = false := beq_eq_false_iff_ne.2 (by omega)
      rw [hz, althinglaw1_CompactRows.j0, if_neg (by decide), row_tells _ [] l (by omega) (by omega) (by simp; omega), Option.bind_some, List.nil_append]
      rw [rows_tells _ hbb (by omega) (by rw [hrl]; omega), Option.bind_some, hrl, if_pos rfl, if_pos rfl, hb0, althinglaw1_CompactRows.j1, if_neg (by decide)]
      obtain ⟨m0, m1⟩ := and_mask a
      have r0 : (0 : Int) ≤ Int.tmod (bits .and .i64 a 65535) ((rowsB l).length : Int) := Int.tmod_nonneg _ m0
      have r1 : Int.tmod (bits .and .i64 a 65535) ((rowsB l).length : Int) < ((rowsB l).length : Int) := Int.tmod_lt_of_pos _ (by omega)
      obtain ⟨c, hc⟩ := Int.eq_ofNat_of_zero_le r0
      obtain ⟨j, hj, hjl⟩ := rowsL_cut l hfit hp c (by omega)
      obtain ⟨M, hM⟩ : ∃ M, M = l.length + 60 := ⟨_, rfl⟩
      have loop0 : ∀ (d k i : Nat), i + d = l.length → d + M ≤ k → althinglaw1_CompactRows.l0 k l a (rowsB l) l i = some true := by
        intro d
        induction d with
        | zero =>
          intro k i hi hk
          obtain ⟨k, rfl⟩ : ∃ q, k = q + 3 := ⟨k - 3, by omega⟩
          have g : decide (((l.take j).length : Int) ≥ (l.length : Int)) = false := decide_eq_false (by rw [List.length_take]; omega)
          rw [althinglaw1_CompactRows.l0, if_neg (by omega), if_neg (by omega), if_pos r0, if_pos (by omega), hc, Int.toNat_natCast, rows_tells _ (hbb.take c) (by rw [List.length_take]; omega) (by rw [hjl, List.length_take]; omega), Option.bind_some, if_pos rfl]
          rw [hjl, g, althinglaw1_CompactRows.j3, if_neg (by decide)]
          exact loop1 l (by omega) j (by omega) j _ 0 (by omega) (by omega)
        | succ d ih =>
          intro k i hi hk
          clear m0 m1 r0 r1 hc hK
          obtain ⟨k, rfl⟩ : ∃ q, k = q + 1 := ⟨k - 1, by omega⟩
          have e1 : wrap64 ((i : Int) + 1) = ((i + 1 : Nat) : Int) := by rw [wrap_in (by omega) (by omega)]; omega
          rw [althinglaw1_CompactRows.l0, if_pos (by omega), if_pos (by omega), if_pos (by omega), if_pos rfl, e1]
          exact ih k (i + 1) (by omega) (by omega)
      exact loop0 l.length _ 0 (by omega) (by omega)

theorem walks : WalksUpto 10 Try.f10 := by
  intro H enc W base args ds ps hval hA _ _ _ hbk
  rw [Try.params10] at hA hval
  obtain ⟨v0, v1, d0, d1, p0, p1, rfl, rfl, rfl, h0, h1⟩ := trodAll_two hA
  obtain ⟨A0, len0, cap0, l0, rfl, hC0, hl0, hb0, hs0⟩ := open_rows (hval 0 40 v0 rfl rfl) h0
  obtain ⟨a1, rfl, rfl, rfl, _⟩ := open_int Try.underlying3 (hval 1 3 v1 rfl rfl) h1
  subst hl0
  have hs : rowsSize l0 ≤ 1048576 := by
    have := bulk_part (d := d0) (l := [d0, .lit (.int .i64 a1)]) (by simp)
    omega
  obtain ⟨k, hk⟩ := pure l0 a1 hb0 hs
  exact althinglaw1_CompactRows.calls k A0 cap0 l0 a1 true W hC0.1 hC0.2 hk
set_option maxRecDepth 100000 in
theorem rowed (os : Os) (started : os.Started) (H : Type) (enc : TypeId × Value → H) (F : Stop.Interp) :
    ReturnsInHanded {} Try.checked os 10 .any ((Rows.OpenSpec.upto Rows.compactRowsSpec).pre6 enc Try.prog Try.f10 Rows.compactRowsUptoRow.domain false) (((Rows.OpenSpec.upto Rows.compactRowsSpec).at F).post enc Try.prog Try.f10 false true false false) :=
  liftedUpto (s := Rows.compactRowsSpec) Try.func10 (by kernel_rfl) (by kernel_rfl) (by kernel_rfl) (by kernel_rfl) rfl
    (fun H ds h => by
      have h' : ds.length = 2 := h
      match ds, h' with
      | [d1, d2], _ => rfl)
    os started H enc F
    (OpenSpec.witness (enc := enc) (C := Try.checked) (s := Rows.OpenSpec.upto Rows.compactRowsSpec) (k := Rows.uptoSmall) rfl false ⟨#[], #[.slice none 0 0, .int .i64 0], []⟩ 8 (by kernel_rfl) (by kernel_rfl) (by kernel_rfl)
      (x := ([.nil, .lit (.int .i64 0)], [], [])) (by kernel_rfl) rfl (by kernel_rfl)) walks
theorem over : Rows.compactRowsUptoRow.holds Try.pinned (Rows.OpenSpec.upto Rows.compactRowsSpec) :=
  OpenClaim.holds_of_cond 10 Try.f10 rfl rfl rfl rfl rfl rfl rfl ⟨rfl, rfl, rfl, rfl, rfl⟩ rfl rfl rfl rfl rfl (by kernel_rfl) Try.func10 (by kernel_rfl)
    (of_decide_eq_true (by kernel_rfl)) (by unfold Func.isWrapper; first | (rw [if_pos (by decide +kernel)]; kernel_rfl) | (rw [if_neg (by decide +kernel)]; exact ⟨rfl, rfl⟩))
    (fun os started H enc _ F => rowed os started H enc F)
end Go.Proofs.Ytdnfknphahmofaa.LawCompactRows
namespace Go.Proofs.Ytdnfknphahmofaa
/-- The row, under a short name, for the claim. -/
theorem compactRows_holds : Rows.CompactRowsUptoSaid := LawCompactRows.over
end Go.Proofs.Ytdnfknphahmofaa

