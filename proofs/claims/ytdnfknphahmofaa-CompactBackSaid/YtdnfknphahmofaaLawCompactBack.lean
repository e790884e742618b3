/- CompactBack: a number from 0 to 2^62 that was put is taken as it was, with its size, whatever at most 200 bytes stand behind it; its bytes less the last one are no number. -/
import Derived.Test.YtdnfknphahmofaaFrame
import Derived.Test.YtdnfknphahmofaaPKnown
import Derived.Test.YtdnfknphahmofaaArgBytes
import Derived.Test.YtdnfknphahmofaaGx4
namespace Go.Proofs.Ytdnfknphahmofaa.LawCompactBack
set_option linter.unusedSimpArgs false
set_option linter.unusedVariables false
open Go.ChangeShapes Go.WideShapes Go.ChangeAt Go.RowKit Go.Proofs.Ytdnfknphahmofaa.G Go.Proofs.Ytdnfknphahmofaa.PNum Go.Proofs.Ytdnfknphahmofaa.Frame Go.Proofs.Ytdnfknphahmofaa.ArgBytes Go.Proofs.YtdnfknphahmofaaW.PrintWords Go.Proofs.YtdnfknphahmofaaW.PrintMore

theorem cut_none {n : Int} (h0 : 0 ≤ n) (h1 : n ≤ 4611686018427387904) (more : List Int) (hb : IsBytes more) : takeN ((numB n ++ more).take (sizeN n - 1)) = none := by
  have hl := numB_length n
  have hs := sizeN_range n
  have e : (numB n ++ more).take (sizeN n - 1) = (numB n).take (sizeN n - 1) := List.take_append_of_le_length (by omega)
  rw [e]
  cases h : takeN ((numB n).take (sizeN n - 1)) with
  | none => rfl
  | some x =>
    obtain ⟨m, s⟩ := x
    obtain ⟨q0, q1, q2, q3, q4⟩ := takeN_tells ((numB_bytes n).take _) h
    have ht : (numB n).take s = numB m := by
      rw [← q4, List.take_take]
      congr 1
      rw [List.length_take] at q3
      omega
    have hm := (takeN_iff (numB_bytes n) m s).2 ⟨q0, q1, q2, by rw [List.length_take] at q3; omega, ht⟩
    have hn := takeN_put h0 h1 []
    rw [List.append_nil] at hn
    rw [hn] at hm
    injection hm with hm
    injection hm with e1 e2
    rw [List.length_take] at q3
    omega

theorem pure (n : Int) (more : List Int) (hb : IsBytes more) : althinglaw1_CompactBack.f 60 n more = some true := by
  unfold althinglaw1_CompactBack.f
  by_cases c0 : n < 0
  · rw [if_pos c0, althinglaw1_CompactBack.j0, if_pos rfl]
  · rw [if_neg c0]
    by_cases c1 : n > 4611686018427387904
    · rw [if_pos c1, althinglaw1_CompactBack.j0, if_pos rfl]
    · rw [if_neg c1]
      by_cases c2 : (more.length : Int) > 200
      · rw [show decide ((more.length : Int) > 200) = true from decide_eq_true c2, althinglaw1_CompactBack.j0, if_pos rfl]
      · rw [show decide ((more.length : Int) > 200) = false from decide_eq_false c2, althinglaw1_CompactBack.j0, if_neg (by decide)]
        have hp := put_tells 59 [] [n] (by simp) (by simp) (by simp)
        have hn : numsB [n] = numB n := by simp [numsB]
        rw [List.nil_append, hn] at hp
        have hl := numB_length n
        have hs := sizeN_range n
        have hlt : (numB n).length + more.length < 140737488355328 := by omega
        have ha : IsBytes (numB n ++ more) := (numB_bytes n).append hb
        have ht := ctake_tells 59 _ ha (by decide)
        rw [takeN_put (by omega) (by omega)] at ht
        have hlen : (((numB n ++ more).length : Nat) : Int) = (sizeN n : Int) + more.length := by rw [List.length_append, hl]; omega
        have e : mx 0 (wrap64 ((mn ((sizeN n : Nat) : Int) (((numB n ++ more).length : Nat) : Int)) - 1)) = ((sizeN n - 1 : Nat) : Int) := by
          rw [hlen, mn_eq, show min ((sizeN n : Nat) : Int) ((sizeN n : Int) + more.length) = (sizeN n : Int) from by omega, wrap_in (by omega) (by omega), mx_eq]
          omega
        have hz : (0 : Int) ≤ ((sizeN n - 1 : Nat) : Int) := by omega
        have hle : ((sizeN n - 1 : Nat) : Int) ≤ (((numB n ++ more).length : Nat) : Int) := by rw [hlen]; omega
        have hc := ctake_tells 59 _ (ha.take (sizeN n - 1)) (by decide)
        rw [cut_none (by omega) (by omega) more hb] at hc
        have hk : (((sizeN n - 1 : Nat)) : Int).toNat = sizeN n - 1 := by omega
        rw [hp, Option.bind_some, if_pos hlt, Option.bind_some, ht, Option.bind_some]
        rw [show outT (some (n, sizeN n)) = (n, (sizeN n : Int), true) from rfl]
        dsimp only
        rw [e, if_pos hz, if_pos hle, hk, hc, Option.bind_some, show outT none = (0, 0, false) from rfl]
        dsimp only
        rw [if_pos rfl, if_pos rfl, size_tells 59 n (by decide), Option.bind_some, if_pos rfl, known_tells 59 (by decide)]
        rfl

theorem walks : Walks 4 Try.f4 := by
  intro H enc W base args ds ps hval hA _ _ hsz
  rw [Try.params4] at hA hval hsz
  obtain ⟨v0, v1, d0, d1, p0, p1, rfl, rfl, rfl, h0, h1⟩ := trodAll_two hA
  obtain ⟨a0, rfl, rfl, rfl, _⟩ := open_int Try.underlying3 (hval 0 3 v0 rfl rfl) h0
  obtain ⟨A, len, cap, l, rfl, hC, hl, hb⟩ := open_bytes (hval 1 23 v1 rfl rfl) h1
  subst hl
  exact althinglaw1_CompactBack.calls 60 a0 A cap l true W hC.1 hC.2 (pure a0 l hb)
set_option maxRecDepth 100000 in
theorem rowed (os : Os) (started : os.Started) (H : Type) (enc : TypeId × Value → H) :
    ReturnsInHanded {} Try.checked os 4 .any (Rows.compactBackSpec.pre6 enc Try.prog Try.f4 Rows.compactBackRow.domain false) (Rows.compactBackSpec.post enc Try.prog Try.f4 false true false false) :=
  lifted (s := Rows.compactBackSpec) Try.func4 (by kernel_rfl) (by kernel_rfl) (by kernel_rfl) (by kernel_rfl) rfl
    (fun H ds h => by
      have h' : ds.length = 2 := h
      match ds, h' with
      | [d1, d2], _ => rfl)
    os started H enc
    (ChangeSpec.witness6 (enc := enc) (C := Try.checked) false ⟨#[], #[.int .i64 0, .slice none 0 0], []⟩ 8 (by kernel_rfl) (by kernel_rfl) (by kernel_rfl) (by kernel_rfl)) walks
theorem over : Rows.compactBackRow.holds Try.pinned (OpenSpec.ofChange Rows.compactBackSpec) :=
  OpenClaim.holds_of_wide 4 Try.f4 rfl rfl rfl rfl rfl rfl rfl ⟨rfl, rfl, rfl, rfl, rfl⟩ rfl rfl rfl rfl rfl (by kernel_rfl) Try.func4 (by kernel_rfl)
    (of_decide_eq_true (by kernel_rfl)) (by unfold Func.isWrapper; first | (rw [if_pos (by decide +kernel)]; kernel_rfl) | (rw [if_neg (by decide +kernel)]; exact ⟨rfl, rfl⟩))
    (fun os started H enc _ => rowed os started H enc)
end Go.Proofs.Ytdnfknphahmofaa.LawCompactBack
namespace Go.Proofs.Ytdnfknphahmofaa
/-- The row, under a short name, for the claim. -/
theorem compactBack_holds : Rows.CompactBackSaid := LawCompactBack.over
end Go.Proofs.Ytdnfknphahmofaa

