/- CompactOwn: at most 500 bytes with room behind them, 1 to 500 bytes, a number: what is handed in is neither changed nor kept. -/
import Derived.Test.YtdnfknphahmofaaFrame
import Derived.Test.YtdnfknphahmofaaPKnown
import Derived.Test.YtdnfknphahmofaaPRows
import Derived.Test.YtdnfknphahmofaaArgBytes
import Derived.Test.YtdnfknphahmofaaGx8
namespace Go.Proofs.Ytdnfknphahmofaa.LawCompactOwn
set_option linter.unusedSimpArgs false
set_option linter.unusedVariables false
open Go.ChangeShapes Go.WideShapes Go.ChangeAt Go.RowKit Go.Proofs.Ytdnfknphahmofaa.G Go.Proofs.Ytdnfknphahmofaa.PNum Go.Proofs.Ytdnfknphahmofaa.Frame Go.Proofs.Ytdnfknphahmofaa.ArgBytes Go.Proofs.YtdnfknphahmofaaW.PrintWords Go.Proofs.YtdnfknphahmofaaW.PrintMore

theorem cutN_rowB {p : List Int} (hp : p.length ≤ 500) : cutN (rowB p) = some (p, sizeN p.length + p.length) := by
  have h := takeN_put (n := (p.length : Int)) (by omega) (by omega) p
  have hl := numB_length (p.length : Int)
  unfold cutN
  unfold rowB
  rw [h]
  dsimp only
  rw [if_neg (by rw [List.length_append, hl]; omega), Int.toNat_natCast, List.take_of_length_le (by rw [List.length_append, hl]; exact Nat.le_refl _), List.drop_left' hl]

theorem tail_lit : strOfNums [1, 2, 3] = (⟨#[1, 2, 3]⟩ : ByteArray) := by rfl

theorem j0_true (k : Nat) (b p : List Int) (n : Int) : althinglaw1_CompactOwn.j0 (k + 1) b p n true = some true := by rw [althinglaw1_CompactOwn.j0, if_pos rfl]

theorem j1_tells (k : Nat) (n : Int) (b p : List Int) (hb : b.length ≤ 500) (hp : p.length ≤ 500) (h1 : 1 ≤ p.length) (hk : 30 ≤ k) :
    althinglaw1_CompactOwn.j1 (k + 1) n (strOfNums b) (b ++ [1, 2, 3]) (b ++ rowB p) (b ++ numB n) (strOfNums b ++ strOfNums (rowB p)) p false = some true := by
  have c1 : (0 : Int) < (p.length : Int) := by omega
  have c2 : (strOfNums b).size + 3 ≤ 9223372036854775807 := by rw [strOf_size]; omega
  have c3 : (strOfNums b).size + (strOfNums (numB n)).size ≤ 9223372036854775807 := by
    have := sizeN_range n
    rw [strOf_size, strOf_size, numB_length]; omega
  rw [althinglaw1_CompactOwn.j1, if_neg (by decide), if_pos c1, if_pos c2, if_pos (by rw [strOf_append, tail_lit]), if_pos (by rw [strOf_append]), rnum_tells k n (by omega), Option.bind_some, if_pos c3, if_pos (by rw [strOf_append]), known_tells k (by omega)]
  rfl

theorem j0_tells (k : Nat) (n : Int) (b p : List Int) (hib : IsBytes b) (hip : IsBytes p) (hb : b.length ≤ 500) (hp : p.length ≤ 500) (h1 : 1 ≤ p.length) (hk : 60 ≤ k) :
    althinglaw1_CompactOwn.j0 (k + 1 + 1) b p n false = some true := by
  have hrl := rowB_length p
  have hsz := sizeN_range (p.length : Int)
  have hs := rowsSize_cons p []
  have hrs : rowsSize [p] = 1 + p.length := by rw [hs]; rfl
  have c1 : (List.replicate 0 0 : List Int).length + b.length < 140737488355328 := by simp; omega
  have c2 : ((List.replicate 0 0 : List Int) ++ b).length + ([1, 2, 3] : List Int).length < 140737488355328 := by simp; omega
  have c3 : (0 : Int) ≤ (b.length : Int) := by omega
  have c4 : (b.length : Int) ≤ (((List.replicate 0 0 : List Int) ++ b ++ [1, 2, 3]).length : Int) := by simp; omega
  have e1 : ((List.replicate 0 0 : List Int) ++ b ++ [1, 2, 3]).take ((b.length : Int) : Int).toNat = b := by simp
  have e2 := row_tells (k + 1) b [p] (by omega) (by simp; omega) (by omega)
  have e2' : rowsB [p] = rowB p := by simp [rowsB]
  have e3 := put_tells (k + 1) b [n] (by simp) (by simp; omega) (by simp; omega)
  have e3' : numsB [n] = numB n := by simp [numsB]
  have e4 := refRow_tells (k + 1) p (by omega) (by omega)
  have c5 : (strOfNums b).size + (strOfNums (rowB p)).size ≤ 9223372036854775807 := by rw [strOf_size, strOf_size]; omega
  have em : mn (b.length : Int) ((b ++ rowB p).length : Int) = (b.length : Int) := by rw [mn_eq, List.length_append]; omega
  have c6 : (b.length : Int) ≤ ((b ++ rowB p).length : Int) := by rw [List.length_append]; omega
  have e5 : (b ++ rowB p).drop ((b.length : Int)).toNat = rowB p := by simp
  have e6 := cut_tells (k + 1) (rowB p) (rowB_bytes hip) (by omega) (by omega)
  rw [cutN_rowB hp, show outC (some (p, sizeN p.length + p.length)) = (p, ((sizeN p.length + p.length : Nat) : Int), true) from rfl] at e6
  have e7 : ((p.length : Int) == 0) = false := beq_eq_false_iff_ne.2 (by omega)
  rw [e2'] at e2
  rw [e3'] at e3
  have e8 := j1_tells k n b p hb hp h1 (by omega)
  rw [althinglaw1_CompactOwn.j0, if_neg (by decide), if_pos (by decide), Option.bind_some, if_pos c1, Option.bind_some, Option.bind_some, if_pos c2, Option.bind_some, if_pos c3, if_pos c4, e1, e2, Option.bind_some, e3, Option.bind_some, e4, Option.bind_some, if_pos c5, em, if_pos c3, if_pos c6, e5, e6, Option.bind_some]
  rw [show (if ((p, ((sizeN p.length + p.length : Nat) : Int), true) : List Int × Int × Bool).2.2 = true then _ else _) = _ from if_pos rfl, e7]
  exact e8

theorem pure (b p : List Int) (n : Int) (hib : IsBytes b) (hip : IsBytes p) : althinglaw1_CompactOwn.f 80 b p n = some true := by
  unfold althinglaw1_CompactOwn.f
  by_cases h0 : (b.length : Int) > 500
  · rw [if_pos h0]; exact j0_true _ _ _ _
  · rw [if_neg h0]
    by_cases h1 : (p.length : Int) < 1
    · rw [if_pos h1]; exact j0_true _ _ _ _
    · rw [if_neg h1]
      by_cases h2 : (p.length : Int) > 500
      · rw [decide_eq_true h2]; exact j0_true _ _ _ _
      · rw [decide_eq_false h2]; exact j0_tells 78 n b p hib hip (by omega) (by omega) (by omega) (by decide)

theorem walks : Walks 8 Try.f8 := by
  intro H enc W base args ds ps hval hA _ _ hsz
  rw [Try.params8] at hA hval hsz
  obtain ⟨v0, v1, v2, d0, d1, d2, p0, p1, p2, rfl, rfl, rfl, h0, h1, h2⟩ := trodAll_three hA
  obtain ⟨A0, len0, cap0, l0, rfl, hC0, hl0, hb0⟩ := open_bytes (hval 0 23 v0 rfl rfl) h0
  obtain ⟨A1, len1, cap1, l1, rfl, hC1, hl1, hb1⟩ := open_bytes (hval 1 23 v1 rfl rfl) h1
  obtain ⟨a2, rfl, rfl, rfl, _⟩ := open_int Try.underlying3 (hval 2 3 v2 rfl rfl) h2
  subst hl0 hl1
  have hF : Kd.F (Kd.int .u8) W (fun k => k < W.heap.size) A1 l1.length l1 := Kd.C_F (Kd.heap_int .u8) hC1.1
  exact althinglaw1_CompactOwn.calls 80 A0 cap0 l0 _ A1 cap1 l1 a2 true W hC0.1 hC0.2 (Kd.V_mk hC1.2 hF) (pure l0 l1 a2 hb0 hb1)
set_option maxRecDepth 100000 in
theorem rowed (os : Os) (started : os.Started) (H : Type) (enc : TypeId × Value → H) :
    ReturnsInHanded {} Try.checked os 8 .any (Rows.compactOwnSpec.pre6 enc Try.prog Try.f8 Rows.compactOwnRow.domain false) (Rows.compactOwnSpec.post enc Try.prog Try.f8 false true false false) :=
  lifted (s := Rows.compactOwnSpec) Try.func8 (by kernel_rfl) (by kernel_rfl) (by kernel_rfl) (by kernel_rfl) rfl
    (fun H ds h => by
      have h' : ds.length = 3 := h
      match ds, h' with
      | [d1, d2, d3], _ => rfl)
    os started H enc
    (ChangeSpec.witness6 (enc := enc) (C := Try.checked) false ⟨#[], #[.slice none 0 0, .slice none 0 0, .int .i64 0], []⟩ 8 (by kernel_rfl) (by kernel_rfl) (by kernel_rfl) (by kernel_rfl)) walks
theorem over : Rows.compactOwnRow.holds Try.pinned (OpenSpec.ofChange Rows.compactOwnSpec) :=
  OpenClaim.holds_of_wide 8 Try.f8 rfl rfl rfl rfl rfl rfl rfl ⟨rfl, rfl, rfl, rfl, rfl⟩ rfl rfl rfl rfl rfl (by kernel_rfl) Try.func8 (by kernel_rfl)
    (of_decide_eq_true (by kernel_rfl)) (by unfold Func.isWrapper; first | (rw [if_pos (by decide +kernel)]; kernel_rfl) | (rw [if_neg (by decide +kernel)]; exact ⟨rfl, rfl⟩))
    (fun os started H enc _ => rowed os started H enc)
end Go.Proofs.Ytdnfknphahmofaa.LawCompactOwn
namespace Go.Proofs.Ytdnfknphahmofaa
/-- The row, under a short name, for the claim. -/
theorem compactOwn_holds : Rows.CompactOwnSaid := LawCompactOwn.over
end Go.Proofs.Ytdnfknphahmofaa

