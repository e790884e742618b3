/- The plain law of ConvBack: what was added, taken off again, leaves what was; for at most 60 tallies, each number up to 2^40. -/
import Derived.Test.YtdekdpompadfcaaPConvBackx3
namespace Go.Proofs.Ytdekdpompadfcaa.BackPure
set_option linter.unusedSimpArgs false
set_option linter.unusedVariables false
open Go.RowKit Go.Proofs.Ytdekdpompadfcaa.PConvBack Go.Proofs.YtdekdpompadfcaaW.PrintWords

theorem in_tells (a b : Int) : althinglaw5_in.f a b = some (decide (0 ≤ a ∧ a ≤ b)) := by
  unfold althinglaw5_in.f; by_cases h : 0 ≤ a <;> simp [h]
theorem known_tells : althinglaw5_known.f = some true := by decide +kernel

def small (t : S29) : Prop := (0 ≤ t.f0 ∧ t.f0 ≤ 1099511627776) ∧ (0 ≤ t.f1 ∧ t.f1 ≤ 1099511627776) ∧ (0 ≤ t.f2 ∧ t.f2 ≤ 1099511627776)
instance (t : S29) : Decidable (small t) := by unfold small; infer_instance
theorem small_tells (t : S29) : althinglaw5_small.f t.f0 t.f1 t.f2 = some (decide (small t)) := by
  unfold althinglaw5_small.f small
  simp only [in_tells, Option.bind_some]
  by_cases h0 : 0 ≤ t.f0 ∧ t.f0 ≤ 1099511627776
  · by_cases h1 : 0 ≤ t.f1 ∧ t.f1 ≤ 1099511627776 <;> simp [h0, h1]
  · simp [h0]

def tsum (g : S29 → Int) : List S29 → Int
  | [] => 0
  | x :: r => g x + tsum g r
theorem tsum_append (g : S29 → Int) (a b : List S29) : tsum g (a ++ b) = tsum g a + tsum g b := by
  induction a with
  | nil => simp [tsum]
  | cons x a ih => simp [tsum, ih]; omega
theorem tsum_reverse (g : S29 → Int) (a : List S29) : tsum g a.reverse = tsum g a := by
  induction a with
  | nil => rfl
  | cons x a ih => simp [tsum, tsum_append, ih]; omega
theorem tsum_bound (g : S29 → Int) (hg : ∀ x, small x → 0 ≤ g x ∧ g x ≤ 1099511627776) (a : List S29) (h : ∀ x ∈ a, small x) : 0 ≤ tsum g a ∧ tsum g a ≤ 1099511627776 * a.length := by
  induction a with
  | nil => simp [tsum]
  | cons x a ih =>
    have h1 := hg x (h x (by simp))
    have h2 := ih (fun y hy => h y (by simp [hy]))
    simp [tsum]
    omega
theorem tsum_take (g : S29 → Int) (l : List S29) (i : Nat) (h : i < l.length) : tsum g (l.take (i + 1)) = tsum g (l.take i) + g l[i] := by
  rw [List.take_succ_eq_append_getElem h, tsum_append]
  simp [tsum]
theorem rd_at (l : List S29) (i : Nat) (h : i < l.length) : rd_T29 l (i : Int) = l[i] := by
  unfold rd_T29
  simp [List.getD_eq_getElem?_getD, h]
theorem wrap_in {a : Int} (h : 0 ≤ a ∧ a ≤ 9223372036854775807) : wrap64 a = a := by unfold wrap64; omega
theorem g0 (x : S29) (h : small x) : 0 ≤ x.f0 ∧ x.f0 ≤ 1099511627776 := h.1
theorem g1 (x : S29) (h : small x) : 0 ≤ x.f1 ∧ x.f1 ≤ 1099511627776 := h.2.1
theorem g2 (x : S29) (h : small x) : 0 ≤ x.f2 ∧ x.f2 ≤ 1099511627776 := h.2.2
/-- A sum from a tally on, within bounds. -/
theorem part_in {g : S29 → Int} (hg : ∀ x, small x → 0 ≤ g x ∧ g x ≤ 1099511627776) {t : S29} (ht : small t) {l : List S29} (hl : ∀ x ∈ l, small x) (hn : l.length ≤ 60) (i : Nat) :
    0 ≤ g t + tsum g (l.take i) ∧ g t + tsum g (l.take i) ≤ 67070209294336 := by
  have h1 := hg t ht
  have h2 := tsum_bound g hg (l.take i) (fun x hx => hl x (List.mem_of_mem_take hx))
  have h3 : (l.take i).length ≤ 60 := Nat.le_trans (List.length_take_le' i l) hn
  have h4 : ((l.take i).length : Int) ≤ 60 := by omega
  omega

theorem add_loop (t : S29) (ht : small t) (l : List S29) (hl : ∀ x ∈ l, small x) (hn : l.length ≤ 60) (d : Nat) : ∀ (k i : Nat), i + d = l.length → d < k →
    conv_Add.l0 k l (l.length : Int) (i : Int) (t.f0 + tsum S29.f0 (l.take i)) (t.f1 + tsum S29.f1 (l.take i)) (t.f2 + tsum S29.f2 (l.take i)) = some (t.f0 + tsum S29.f0 l, t.f1 + tsum S29.f1 l, t.f2 + tsum S29.f2 l) := by
  induction d with
  | zero =>
    intro k i hi hk
    obtain ⟨k, rfl⟩ : ∃ m, k = m + 1 := ⟨k - 1, by omega⟩
    have e : l.take i = l := List.take_of_length_le (by omega)
    simp only [conv_Add.l0]
    rw [if_neg (by omega), e]
  | succ d ih =>
    intro k i hi hk
    obtain ⟨k, rfl⟩ : ∃ m, k = m + 1 := ⟨k - 1, by omega⟩
    have hlt : i < l.length := by omega
    simp only [conv_Add.l0]
    rw [if_pos (by omega), if_pos (by omega), if_pos (by omega), rd_at l i hlt]
    have b0 := part_in g0 ht hl hn (i + 1)
    have b1 := part_in g1 ht hl hn (i + 1)
    have b2 := part_in g2 ht hl hn (i + 1)
    have s0 := tsum_take S29.f0 l i hlt
    have s1 := tsum_take S29.f1 l i hlt
    have s2 := tsum_take S29.f2 l i hlt
    have w0 : wrap64 (t.f0 + tsum S29.f0 (l.take i) + (l[i]).f0) = t.f0 + tsum S29.f0 (l.take (i + 1)) := by rw [wrap_in (by omega), s0]; omega
    have w1 : wrap64 (t.f1 + tsum S29.f1 (l.take i) + (l[i]).f1) = t.f1 + tsum S29.f1 (l.take (i + 1)) := by rw [wrap_in (by omega), s1]; omega
    have w2 : wrap64 (t.f2 + tsum S29.f2 (l.take i) + (l[i]).f2) = t.f2 + tsum S29.f2 (l.take (i + 1)) := by rw [wrap_in (by omega), s2]; omega
    have wi : wrap64 ((i : Int) + 1) = ((i + 1 : Nat) : Int) := by rw [wrap_in (by omega)]; omega
    rw [w0, w1, w2, wi]
    exact ih k (i + 1) (by omega) (by omega)

theorem add_tells (t : S29) (ht : small t) (l : List S29) (hl : ∀ x ∈ l, small x) (hn : l.length ≤ 60) (k : Nat) (hk : l.length < k) :
    conv_Add.f k t.f0 t.f1 t.f2 l = some (t.f0 + tsum S29.f0 l, t.f1 + tsum S29.f1 l, t.f2 + tsum S29.f2 l) := by
  have h := add_loop t ht l hl hn l.length k 0 (by omega) hk
  simp [tsum] at h
  exact h

theorem neg_in {x : Int} (h : 0 ≤ x ∧ x ≤ 9223372036854775807) : wrap64 (-x) = -x := by unfold wrap64; omega
theorem less_in {a x : Int} (h : 0 ≤ x ∧ x ≤ a ∧ a ≤ 9223372036854775807) : wrap64 (a + -x) = a - x := by unfold wrap64; omega
theorem low_in {a x : Int} (h : 0 ≤ x ∧ x ≤ a ∧ a ≤ 9223372036854775807) : 0 ≤ x ∧ x ≤ 9223372036854775807 := by omega
theorem one_in : wrap64 (0 + 1) = 1 := by decide +kernel
theorem add_one (k : Nat) (a b c x y z : Int) : conv_Add.f (k + 2) a b c [⟨x, y, z⟩] = some (wrap64 (a + x), wrap64 (b + y), wrap64 (c + z)) := by
  unfold conv_Add.f
  have hl : (([(⟨x, y, z⟩ : S29)] : List S29).length : Int) = 1 := by simp
  have r : rd_T29 [(⟨x, y, z⟩ : S29)] 0 = ⟨x, y, z⟩ := rfl
  rw [hl]
  generalize h : [(⟨x, y, z⟩ : S29)] = l at r
  have hl' : (l.length : Int) = 1 := by rw [← h]; simp
  rw [show k + 2 = (k + 1) + 1 from rfl, conv_Add.l0, if_pos (by omega), if_pos (by omega), if_pos (by omega), r, one_in, conv_Add.l0, if_neg (by omega)]
theorem sub_tells (k : Nat) (a b c x y z : Int) (ha : 0 ≤ x ∧ x ≤ a ∧ a ≤ 9223372036854775807) (hb : 0 ≤ y ∧ y ≤ b ∧ b ≤ 9223372036854775807) (hc : 0 ≤ z ∧ z ≤ c ∧ c ≤ 9223372036854775807) :
    conv_Sub.f (k + 2) a b c x y z = some (a - x, b - y, c - z) := by
  unfold conv_Sub.f
  rw [neg_in (low_in ha), neg_in (low_in hb), neg_in (low_in hc), add_one, less_in ha, less_in hb, less_in hc, Option.bind_some]

theorem sub_at (k : Nat) (hk : 2 ≤ k) (a b c x y z : Int) (ha : 0 ≤ x ∧ x ≤ a ∧ a ≤ 9223372036854775807) (hb : 0 ≤ y ∧ y ≤ b ∧ b ≤ 9223372036854775807) (hc : 0 ≤ z ∧ z ≤ c ∧ c ≤ 9223372036854775807) :
    conv_Sub.f k a b c x y z = some (a - x, b - y, c - z) := by
  obtain ⟨m, rfl⟩ : ∃ m, k = m + 2 := ⟨k - 2, by omega⟩
  exact sub_tells m a b c x y z ha hb hc
theorem l1_step (k : Nat) (l : List S29) (i a b c x y z : Int) (h0 : 0 ≤ i) (h1 : i < (l.length : Int)) (g : S29) (hg : rd_T29 l i = g) (r : Int × Int × Int) (hr : conv_Sub.f k x y z g.f0 g.f1 g.f2 = some r) :
    althinglaw5_ConvBack.l1 (k + 1) l i a b c x y z = althinglaw5_ConvBack.l1 k l (wrap64 (i + 1)) a b c r.1 r.2.1 r.2.2 := by
  rw [althinglaw5_ConvBack.l1, if_pos h1, if_pos h0, hg, hr, Option.bind_some]
theorem l1_end (k : Nat) (l : List S29) (i a b c : Int) (h1 : ¬ i < (l.length : Int)) : althinglaw5_ConvBack.l1 (k + 1) l i a b c a b c = some true := by
  rw [althinglaw5_ConvBack.l1, if_neg h1]
  simp [known_tells]

theorem off_loop (t : S29) (ht : small t) (l : List S29) (hl : ∀ x ∈ l, small x) (hn : l.length ≤ 60) (d : Nat) : ∀ (k i : Nat), i + d = l.length → d + 3 ≤ k →
    althinglaw5_ConvBack.l1 k l (i : Int) t.f0 t.f1 t.f2 (t.f0 + tsum S29.f0 (l.drop i)) (t.f1 + tsum S29.f1 (l.drop i)) (t.f2 + tsum S29.f2 (l.drop i)) = some true := by
  induction d with
  | zero =>
    intro k i hi hk
    obtain ⟨k, rfl⟩ : ∃ m, k = m + 1 := ⟨k - 1, by omega⟩
    have e : l.drop i = [] := List.drop_eq_nil_of_le (by omega)
    have z (a : Int) : a + 0 = a := by omega
    rw [e, tsum, tsum, tsum, z, z, z]
    exact l1_end k l i _ _ _ (by omega)
  | succ d ih =>
    intro k i hi hk
    obtain ⟨k, rfl⟩ : ∃ m, k = m + 1 := ⟨k - 1, by omega⟩
    have hlt : i < l.length := by omega
    have i0 : (0 : Int) ≤ i := by omega
    have i1 : (i : Int) < (l.length : Int) := by omega
    have wi : wrap64 ((i : Int) + 1) = ((i + 1 : Nat) : Int) := by rw [wrap_in (by omega)]; omega
    have k2 : 2 ≤ k := by omega
    have hi' : i + 1 + d = l.length := by omega
    have hk' : d + 3 ≤ k := by omega
    have e : l.drop i = l[i] :: l.drop (i + 1) := List.drop_eq_getElem_cons hlt
    have hd : ∀ x ∈ l.drop (i + 1), small x := fun x hx => hl x (List.mem_of_mem_drop hx)
    have hx := hl l[i] (List.getElem_mem hlt)
    have hln : ((l.drop (i + 1)).length : Int) ≤ 60 := by rw [List.length_drop]; omega
    have b0 := tsum_bound S29.f0 g0 _ hd
    have b1 := tsum_bound S29.f1 g1 _ hd
    have b2 := tsum_bound S29.f2 g2 _ hd
    have t0 := g0 t ht
    have t1 := g1 t ht
    have t2 := g2 t ht
    have x0 := g0 _ hx
    have x1 := g1 _ hx
    have x2 := g2 _ hx
    have hs := sub_at k k2 (t.f0 + tsum S29.f0 (l.drop i)) (t.f1 + tsum S29.f1 (l.drop i)) (t.f2 + tsum S29.f2 (l.drop i)) l[i].f0 l[i].f1 l[i].f2
      (by rw [e, tsum]; omega) (by rw [e, tsum]; omega) (by rw [e, tsum]; omega)
    rw [l1_step k l i _ _ _ _ _ _ i0 i1 _ (rd_at l i hlt) _ hs, wi]
    have q0 : t.f0 + tsum S29.f0 (l.drop i) - l[i].f0 = t.f0 + tsum S29.f0 (l.drop (i + 1)) := by rw [e, tsum]; omega
    have q1 : t.f1 + tsum S29.f1 (l.drop i) - l[i].f1 = t.f1 + tsum S29.f1 (l.drop (i + 1)) := by rw [e, tsum]; omega
    have q2 : t.f2 + tsum S29.f2 (l.drop i) - l[i].f2 = t.f2 + tsum S29.f2 (l.drop (i + 1)) := by rw [e, tsum]; omega
    rw [q0, q1, q2]
    exact ih k (i + 1) hi' hk'

theorem law_loop (t : S29) (ht : small t) (l : List S29) (hn : l.length ≤ 60) (d : Nat) : ∀ (k i : Nat), i + d = l.length → d + 70 ≤ k → (∀ x ∈ l.take i, small x) →
    althinglaw5_ConvBack.l0 k l (l.take i).reverse (i : Int) t.f0 t.f1 t.f2 (t.f0 + tsum S29.f0 (l.take i)) (t.f1 + tsum S29.f1 (l.take i)) (t.f2 + tsum S29.f2 (l.take i)) = some true := by
  induction d with
  | zero =>
    intro k i hi hk hs
    obtain ⟨k, rfl⟩ : ∃ m, k = m + 2 := ⟨k - 2, by omega⟩
    have e : l.take i = l := List.take_of_length_le (by omega)
    rw [e] at hs ⊢
    simp only [althinglaw5_ConvBack.l0]
    rw [if_neg (by omega), add_tells t ht l hs hn _ (by omega)]
    simp only [Option.bind_some]
    rw [add_tells t ht l.reverse (fun x hx => hs x (List.mem_reverse.1 hx)) (by simpa using hn) _ (by simp; omega)]
    simp only [Option.bind_some, tsum_reverse]
    rw [add_tells t ht [] (fun x hx => by cases hx) (by simp) _ (by simp)]
    have h := off_loop t ht l hs hn l.length k 0 (by omega) (by omega)
    simp only [List.drop_zero] at h
    simp [tsum, althinglaw5_ConvBack.j2]
    exact h
  | succ d ih =>
    intro k i hi hk hs
    obtain ⟨k, rfl⟩ : ∃ m, k = m + 1 := ⟨k - 1, by omega⟩
    have hlt : i < l.length := by omega
    have wi : wrap64 ((i : Int) + 1) = ((i + 1 : Nat) : Int) := by rw [wrap_in (by omega)]; omega
    simp only [althinglaw5_ConvBack.l0]
    rw [if_pos (by omega), if_pos (by omega), rd_at l i hlt, small_tells]
    simp only [Option.bind_some]
    by_cases hx : small l[i]
    · have hs' : ∀ x ∈ l.take (i + 1), small x := by
        intro x hx'
        rw [List.take_succ_eq_append_getElem hlt] at hx'
        rcases List.mem_append.1 hx' with h | h
        · exact hs x h
        · simp at h; subst h; exact hx
      have hl60 : (l.take (i + 1)).length ≤ 60 := Nat.le_trans (List.length_take_le' _ _) hn
      have b0 := part_in g0 ht hs' hl60 (i + 1)
      have b1 := part_in g1 ht hs' hl60 (i + 1)
      have b2 := part_in g2 ht hs' hl60 (i + 1)
      rw [List.take_take, Nat.min_self] at b0 b1 b2
      have s0 := tsum_take S29.f0 l i hlt
      have s1 := tsum_take S29.f1 l i hlt
      have s2 := tsum_take S29.f2 l i hlt
      have w0 : wrap64 (t.f0 + tsum S29.f0 (l.take i) + (l[i]).f0) = t.f0 + tsum S29.f0 (l.take (i + 1)) := by rw [wrap_in (by omega), s0]; omega
      have w1 : wrap64 (t.f1 + tsum S29.f1 (l.take i) + (l[i]).f1) = t.f1 + tsum S29.f1 (l.take (i + 1)) := by rw [wrap_in (by omega), s1]; omega
      have w2 : wrap64 (t.f2 + tsum S29.f2 (l.take i) + (l[i]).f2) = t.f2 + tsum S29.f2 (l.take (i + 1)) := by rw [wrap_in (by omega), s2]; omega
      have hlen : [(⟨l[i].f0, l[i].f1, l[i].f2⟩ : S29)].length + (l.take i).reverse.length < 5864062014805 := by simp; omega
      have hrev : [(⟨l[i].f0, l[i].f1, l[i].f2⟩ : S29)] ++ (l.take i).reverse = (l.take (i + 1)).reverse := by
        rw [List.take_succ_eq_append_getElem hlt, List.reverse_append]; rfl
      simp only [hx, decide_true, if_true, althingref5_Add.f, Option.bind_some, w0, w1, w2, wi]
      rw [if_pos hlen, hrev]
      exact ih k (i + 1) (by omega) (by omega) hs'
    · simp [hx]

theorem pure (t : S29) (l : List S29) : althinglaw5_ConvBack.f 200 t.f0 t.f1 t.f2 l = some true := by
  unfold althinglaw5_ConvBack.f
  by_cases hn : (l.length : Int) > 60
  · rw [if_pos hn]
    simp [althinglaw5_ConvBack.j0]
  · rw [if_neg hn, small_tells]
    simp only [Option.bind_some]
    by_cases ht : small t
    · have h := law_loop t ht l (by omega) l.length 199 0 (by omega) (by omega) (fun x hx => by simp at hx)
      simp [ht, althinglaw5_ConvBack.j0]
      simpa [tsum] using h
    · simp [ht, althinglaw5_ConvBack.j0]

end Go.Proofs.Ytdekdpompadfcaa.BackPure
