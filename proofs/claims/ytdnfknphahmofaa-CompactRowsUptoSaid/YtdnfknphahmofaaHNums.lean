import Derived.Test.YtdnfknphahmofaaHSeq
import Derived.Test.YtdnfknphahmofaaPKnown
/- compact.Nums: the iterator over the numbers of bytes. -/
namespace Go.Proofs.Ytdnfknphahmofaa.G
open Go.RowKit Go.Shelf Go.Proofs.YtdnfknphahmofaaW Go.Proofs.YtdnfknphahmofaaW.PrintWords Go.Proofs.Ytdnfknphahmofaa.PNum
set_option linter.unusedVariables false
set_option linter.unusedSimpArgs false
attribute [local go_sem] Oper.semAt_some

theorem below_grown {W W' : World} (h : Below W.heap.size W W') : W.grownBy W' none := ⟨h.os, h.tape, h.output, h.size, fun k hk _ => h.block k hk⟩
theorem abides_below {β : Type} {B : Nat} {J : β → World → Prop} (hJ : AbidesFrom B J) {s : β} {W W' : World} (h : J s W) (hb : Below W.heap.size W W') : J s W' := hJ s W W' none h (below_grown hb) (fun r e => by cases e)
theorem C_keeps {k : IntKind} {S : Nat → Prop} {W W' : World} {A : Option Addr} {n : Nat} {xs : List Int} (h : Kd.C (Kd.int k) W A n xs) (hA : ∀ ad, A = some ad → 0 < n → S ad.block) (hk : KeepsS S W W') : Kd.C (Kd.int k) W' A n xs := by
  refine ⟨h.1, h.2.1, fun h0 => ?_⟩
  obtain ⟨ad, e, hc⟩ := h.2.2 h0
  refine ⟨ad, e, fun j p hj => ?_⟩
  obtain ⟨c, hl, hr, hcell⟩ := hc j p hj
  refine ⟨c, hl, hr, fun i u hu => ?_⟩
  have hlt := hA ad e h0
  have hq := World.cell?_of_block (w := W) (w' := W') (a := ad.add (j * (Kd.int k).sz + i)) (by rw [addr_block]; exact hk.2 _ hlt)
  rw [hq]; exact hcell i u hu
theorem cut_tail (t e : TypeId) {P : Program} {i : TypeInfo} (ht : P.underlying t = some (.slice e)) (hi : P.info? e = some i) (hsz : i.size = 1) (A : Option Addr) (c : Nat) (xs : List Int) (j : Nat) (hm : j ≤ xs.length) (hc : xs.length ≤ c) :
    ∃ A' : Option Addr, (∀ W : World, (Instr.slice t (.slice A xs.length c) (some (.int .i64 (j : Int))) none none).run P W = .ok (.slice A' (xs.length - j) (c - j)) W) ∧
      (∀ (k : IntKind) (w : World), Kd.C (Kd.int k) w A xs.length xs → Kd.C (Kd.int k) w A' (xs.drop j).length (xs.drop j)) ∧ xs.length - j ≤ c - j ∧ (∀ ad', A' = some ad' → ∃ ad, A = some ad ∧ ad'.block = ad.block) := by
  refine ⟨if c = j then A else A.map (·.add (j * 1)), fun W => ?_, fun k w h => Kd.C_drop h hm hc, by omega, ?_⟩
  · exact cut_from (P := P) t e .i64 ht hi 1 hsz A xs.length c (j : Int) (by omega) (by omega) W
  · intro ad' e'
    by_cases h : c = j
    · rw [if_pos h] at e'; exact ⟨ad', e', rfl⟩
    · rw [if_neg h] at e'
      cases A with
      | none => cases e'
      | some ad => simp at e'; subst e'; exact ⟨ad, rfl, addr_block _ _⟩

/-- The numbers with which bytes begin, one behind the other. -/
def numsF : Nat → List Int → List Int
  | 0, _ => []
  | f + 1, b => match takeN b with
    | none => []
    | some (n, s) => n :: numsF f (b.drop s)
def numsL (b : List Int) : List Int := numsF (b.length + 1) b
theorem takeN_size {b : List Int} {n : Int} {s : Nat} (h : takeN b = some (n, s)) : 1 ≤ s ∧ s ≤ b.length := by
  cases b with
  | nil => cases h
  | cons c r =>
    change takeAt c (c :: r) = some (n, s) at h
    unfold takeAt at h
    split at h
    · cases h
    · split at h
      · cases h
      · injection h with h
        injection h with h1 h2
        have h3 : 1 ≤ headSize c := by unfold headSize; (repeat' split) <;> omega
        omega
theorem numsF_more (f g : Nat) : ∀ b : List Int, b.length < f → b.length < g → numsF f b = numsF g b := by
  induction f generalizing g with
  | zero => intro b h; omega
  | succ f ih =>
    intro b hf hg
    obtain ⟨g, rfl⟩ : ∃ q, g = q + 1 := ⟨g - 1, by omega⟩
    simp only [numsF]
    cases h : takeN b with
    | none => rfl
    | some x =>
      obtain ⟨n, s⟩ := x
      have hs := takeN_size h
      have hl : (b.drop s).length < f ∧ (b.drop s).length < g := by rw [List.length_drop]; omega
      simp only
      rw [ih g (b.drop s) hl.1 hl.2]
theorem numsL_none {b : List Int} (h : takeN b = none) : numsL b = [] := by simp [numsL, numsF, h]
theorem numsL_some {b : List Int} {n : Int} {s : Nat} (h : takeN b = some (n, s)) : numsL b = n :: numsL (b.drop s) := by
  have hs := takeN_size h
  have : numsL b = n :: numsF b.length (b.drop s) := by simp [numsL, numsF, h]
  rw [this]
  congr 1
  exact numsF_more _ _ _ (by rw [List.length_drop]; omega) (by omega)

/-- Places and values, as the iterator tells them. -/
def tagFrom : Nat → List Int → List (Int × Int)
  | _, [] => []
  | i, v :: l => ((i : Int), v) :: tagFrom (i + 1) l
def tag (l : List Int) : List (Int × Int) := tagFrom 0 l
theorem tagFrom_snoc (l : List Int) (v : Int) : ∀ i, tagFrom i (l ++ [v]) = tagFrom i l ++ [(((i + l.length : Nat) : Int), v)] := by
  induction l with
  | nil => intro i; simp [tagFrom]
  | cons x l ih => intro i; simp only [List.cons_append, tagFrom, ih (i + 1), List.length_cons]; congr 4; omega
theorem tag_snoc (l : List Int) (v : Int) : tag (l ++ [v]) = tag l ++ [((l.length : Int), v)] := by unfold tag; rw [tagFrom_snoc]; simp
theorem tag_length (l : List Int) : (tag l).length = l.length := by
  have : ∀ i, (tagFrom i l).length = l.length := by
    induction l with
    | nil => intro i; rfl
    | cons x l ih => intro i; simp [tagFrom, ih]
  exact this 0

def sliceLen : Value → Nat
  | .slice _ n _ => n
  | _ => 0

set_option maxRecDepth 100000 in
set_option maxHeartbeats 4000000 in
theorem nums1_in (n : Nat) (hn : 1 ≤ n) (l Bb Bn : Nat) (A : Option Addr) (cap : Nat) (b : List Int) (hb : IsBytes b) (hcap : b.length ≤ cap) (S : Nat → Prop) (hSb : S Bb) (hSn : S Bn) (hA : ∀ ad, A = some ad → 0 < b.length → S ad.block) (W : World) (hSW : ∀ k, S k → k < W.heap.size) (J Jx : List (Int × Int) → World → Prop) (hJ : AbidesFrom W.heap.size J)
    (hY : ∀ pre x W1, J pre W1 → pre.length < (numsL b).length → YieldAt Fence.wide (n - 1) Try.prog l #[.int .i64 x.1, .int .i64 x.2] W1 fun e W' =>
      (e = .returned (.bool true) ∧ J (pre ++ [x]) W' ∧ KeepsS S W1 W') ∨ (e = .returned (.bool false) ∧ Jx (pre ++ [x]) W'))
    (hBb : W.cell? ⟨Bb, 0, none⟩ = some (.slice A b.length cap)) (hBn : W.cell? ⟨Bn, 0, none⟩ = some (.func (.func 15) #[] #[])) (hC : Kd.C (Kd.int .u8) W A b.length b) (h0 : J [] W) :
    CallsIn Fence.wide n Try.prog 38 #[.func (.yield l) #[] #[], .pointer (some ⟨Bb, 0, none⟩), .pointer (some ⟨Bn, 0, none⟩)] W fun e W' => (∃ v, e = .returned v) ∧
      ((∃ ys, ys = tag (numsL b) ∧ J ys W') ∨ (∃ pre, (∃ ns, ns <+: numsL b ∧ pre = tag ns) ∧ Jx pre W')) := by
  refine callsIn_of_wp Try.func38 rfl trivial ?_ rfl
  simp only [Try.ntmps38, List.size_toArray, List.length_cons, List.length_nil, Nat.reduceAdd, Nat.reduceSub, Array.replicate_succ, Array.replicate_zero, List.push_toArray, List.append_toArray, List.nil_append, List.cons_append]
  obtain ⟨i0, hi0, _, hsz, _⟩ := info_parts info5
  gi_wp2
  gi_loopw [4, 5] (fun left i wr => ∃ (ns : List Int) (A' : Option Addr) (c' : Nat) (r : List Int), left = .slice A' r.length c' ∧ i = .int .i64 (ns.length : Int) ∧ numsL b = ns ++ numsL r ∧ Kd.C (Kd.int .u8) wr A' r.length r ∧ r.length ≤ c' ∧ IsBytes r ∧ (∀ ad, A' = some ad → 0 < r.length → S ad.block) ∧ ns.length + r.length ≤ b.length ∧ J (tag ns) wr ∧ KeepsS S W wr)
    (fun left i _ => sliceLen left)
  case atStart => exact ⟨[], A, cap, b, rfl, rfl, rfl, hC, hcap, hb, hA, by simp, h0, KeepsS.refl _ _⟩
  case round =>
    obtain ⟨ns, A', c', r, rfl, rfl, hsp, hC', hc', hbr, hA', hlen, hJs, hnx⟩ := hrel
    have hsize := hnx.1
    have hBx := (hnx.cell (p := ⟨Bn, 0, none⟩) hSn).trans hBn
    have ht := ctake_tells 20 r hbr (by decide)
    have hA'w : ∀ (k : Nat), S k → k < wr.heap.size := fun k hk => Nat.lt_of_lt_of_le (hSW k hk) hsize
    cases hT : takeN r with
    | none =>
      rw [hT] at ht
      have ht' := Lib.hid ht
      have hsp' := Lib.hid hsp
      have hT' := Lib.hid hT
      clear ht hsp hT
      gi_wp2_with (refine ⟨trivial, ?_⟩; gi_at_call 15; refine (callsIn_wide.2 (compact_Take.calls 20 _ _ r 0 0 false _ hC' hc' ht'.out)).mono ?_; rintro e w1 ⟨rfl, hb1⟩)
      refine ⟨fun _ h => (by cases h), ?_⟩
      gi_wp2
      refine bodyPost_ret (results_none rfl _ _ _) rfl ?_
      exact ⟨⟨_, rfl⟩, .inl ⟨_, by rw [hsp'.out, numsL_none hT'.out, List.append_nil], abides_below hJ hJs hb1⟩⟩
    | some x =>
      obtain ⟨v, s⟩ := x
      have hs := takeN_size hT
      have hn1 : numsL b = (ns ++ [v]) ++ numsL (r.drop s) := by rw [hsp, numsL_some hT]; simp
      have hlt : (tag ns).length < (numsL b).length := by rw [tag_length, hn1]; simp
      obtain ⟨A2, hcut, hCr, hcc, hAA⟩ := cut_tail (P := Try.prog) 23 5 Try.underlying23 hi0 hsz A' c' r s hs.2 hc'
      have hrl : (r.drop s).length = r.length - s := List.length_drop
      have hw : IntKind.i64.wrap ((ns.length : Int) + 1) = ((ns ++ [v]).length : Int) := by
        have := hC.2.1
        rw [IntWalk.i64_in _ (by omega)]; simp
      have hsi : (s : Int) ≤ (r.length : Int) := by omega
      have hsi0 : (0 : Int) ≤ (s : Int) := by omega
      rw [hT] at ht
      have ht' := Lib.hid ht
      have hsp' := Lib.hid hsp
      have hn1' := Lib.hid hn1
      have hrl' := Lib.hid hrl
      have hw' := Lib.hid hw
      have hs' := Lib.hid hs
      have hT' := Lib.hid hT
      have hlt' := Lib.hid hlt
      clear ht hsp hn1 hrl hw hs hT hlt
      gi_wp2_with (refine ⟨trivial, ?_⟩; gi_at_call 15; refine (callsIn_wide.2 (compact_Take.calls 20 _ _ r v s true _ hC' hc' ht'.out)).mono ?_; rintro e w1 ⟨rfl, hb1⟩; obtain ⟨fn, tmps, assign, body, hy, hR⟩ := hY (tag ns) ((ns.length : Int), v) w1 (abides_below hJ hJs hb1) hlt'.out; dsimp only at hy)
      refine hR.mono ?_
      rintro e W3 (⟨rfl, hJ3, hk3⟩ | ⟨rfl, hJx3⟩)
      · have hk1 : KeepsS S wr w1 := KeepsS.of_below hb1 hA'w
        have hC3 : Kd.C (Kd.int .u8) W3 A2 (r.drop s).length (r.drop s) := by
          refine hCr .u8 W3 (C_keeps hC' hA' (keepsS_t hk1 hk3))
        gi_wp2
        go_roundw
        case rel =>
          refine ⟨ns ++ [v], A2, c' - s, r.drop s, ?_, ?_, hn1'.out, hC3, ?_, hbr.drop s, ?_, ?_, ?_, keepsS_t (keepsS_t hnx hk1) hk3⟩
          · rw [hrl'.out]
          · rw [← hw'.out, PrintLast.i64_w]
          · rw [hrl'.out]; exact hcc
          · intro ad' e' h'
            obtain ⟨ad, e1, e2⟩ := hAA ad' e'
            rw [e2]; exact hA' ad e1 (by rw [hrl'.out] at h'; omega)
          · rw [hrl'.out]; have := hs'.out; simp; omega
          · rw [tag_snoc]; exact hJ3
        case measure => have := hs'.out; simp [sliceLen]; omega
      · gi_wp2
        refine bodyPost_ret (results_none rfl _ _ _) rfl ?_
        exact ⟨⟨_, rfl⟩, .inr ⟨_, ⟨ns ++ [v], ⟨numsL (r.drop s), hn1'.out.symm⟩, by rw [tag_snoc]⟩, hJx3⟩⟩

end Go.Proofs.Ytdnfknphahmofaa.G
