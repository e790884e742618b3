/- (*Reader).Num of the reference: where the rest begins with a number, and no error has been: it is told, and the rest is behind it. -/
import Derived.Test.YtdnfknphahmofaaGx6
import Derived.Test.YtdnfknphahmofaaPRef
import Derived.Test.YtdnfknphahmofaaHNumsAll
namespace Go.Proofs.Ytdnfknphahmofaa.G
open Go.RowKit Go.Shelf Go.Proofs.YtdnfknphahmofaaW.PrintWords Go.Proofs.YtdnfknphahmofaaW.PrintMore Go.Proofs.Ytdnfknphahmofaa.PNum
set_option linter.unusedVariables false
set_option linter.unusedSimpArgs false

/-- A reader's block. -/
def ReaderAt (W : World) (R : Nat) (v : Value) (er : Bool) : Prop := W.heap[R]? = some (.cells #[v, .bool er] 37 (0, 0))

set_option maxRecDepth 100000 in
set_option maxHeartbeats 4000000 in
theorem Reader_Num.calls (R : Nat) (A : Option Addr) (c : Nat) (l : List Int) (v : Int) (s : Nat) (w : World) (hb : IsBytes l) (hlen : l.length ≤ 4611686018427387904) (hC : Kd.C (Kd.int .u8) w A l.length l) (hc : l.length ≤ c) (hAR : ∀ ad, A = some ad → 0 < l.length → ad.block ≠ R)
    (hR : ReaderAt w R (.slice A l.length c) false) (ht : takeN l = some (v, s)) :
    Calls Try.prog 17 #[.pointer (some ⟨R, 0, none⟩)] w fun e w' => ∃ (A' : Option Addr) (c' : Nat), e = .returned (.int .i64 v) ∧ ReaderAt w' R (.slice A' (l.drop s).length c') false ∧ (l.drop s).length ≤ c' ∧
      Kd.C (Kd.int .u8) w' A' (l.drop s).length (l.drop s) ∧ (∀ ad, A' = some ad → 0 < (l.drop s).length → ∃ ad0, A = some ad0 ∧ ad.block = ad0.block) ∧ Below R w w' ∧ w.heap.size ≤ w'.heap.size ∧ ∀ k, k < w.heap.size → k ≠ R → w'.heap[k]? = w.heap[k]? := by
  have hr := rtake_tells 40 l hb hlen (by decide)
  rw [ht] at hr
  obtain ⟨i0, hi0, _, hsz, _⟩ := info_parts info5
  have hs := takeN_size ht
  have hc0 : w.cell? ⟨R, 0, none⟩ = some (.slice A l.length c) := by simp [World.cell?, show w.heap[R]? = _ from hR]
  have hc1 : w.cell? ⟨R, 1, none⟩ = some (.bool false) := by simp [World.cell?, show w.heap[R]? = _ from hR]
  have hRl : R < w.heap.size := (Array.getElem?_eq_some_iff.1 hR).1
  obtain ⟨A2, hcut, hCr, hcc, hAA⟩ := cut_tail (P := Try.prog) 23 5 Try.underlying23 hi0 hsz A c l s hs.2 hc
  have hrl : (l.drop s).length = l.length - s := List.length_drop
  rw [← hrl] at hcc
  rw [← hrl] at hcut
  have hr' := Lib.hid hr
  have ht' := Lib.hid ht
  clear hr ht
  go_enter Try.func17, Try.ntmps17
  go_wp2_with (go_at_call 18; refine (althingref1_Take.calls 40 A c l v (s : Int) true _ hC hc hr'.out).mono ?_; rintro e w1 ⟨rfl, hb1⟩; have hR1 : ReaderAt w1 R (.slice A l.length c) false := (hb1.block R hRl).trans hR; have hd0 : w1.cell? ⟨R, 0, none⟩ = some (.slice A l.length c) := (hb1.cell (p := ⟨R, 0, none⟩) hRl).trans hc0; have hd1 : w1.cell? ⟨R, 1, none⟩ = some (.bool false) := (hb1.cell (p := ⟨R, 1, none⟩) hRl).trans hc1; have hf0 : w1.frozen? ⟨R, 0, none⟩ = false := (by simp [World.frozen?, show w1.heap[R]? = _ from hR1]))
  go_ret
  refine ⟨A2, c - s, rfl, hrl ▸ ?_, hcc, ?_, fun ad e _ => hAA ad e, (hb1.mono (Nat.le_of_lt hRl)).setCell (p := ⟨R, 0, none⟩) (Nat.le_refl _) _, ?_, ?_⟩
  · show (w1.heap.modify R _)[R]? = _
    obtain ⟨hlt, hk⟩ := Array.getElem?_eq_some_iff.1 hR1
    rw [Array.getElem?_eq_getElem (by rw [Array.size_modify]; exact hlt), Array.getElem_modify_self, hk]
    rfl
  · refine C_keeps (S := fun k => k < w.heap.size ∧ k ≠ R) (hCr _ _ hC) (fun ad' e hn => ?_) ⟨by rw [World.size_setCell]; exact hb1.size, fun k hk => (Below.heap_setCell w1 _ _ k hk.2).trans (hb1.block k hk.1)⟩
    obtain ⟨ad, e1, e2⟩ := hAA ad' e
    have hn' : 0 < l.length := by omega
    rw [e2]
    exact ⟨by subst e1; exact Kd.C_lt hC hn' (by decide), hAR ad e1 hn'⟩
  · rw [World.size_setCell]; exact hb1.size
  · intro k hk hne
    exact (Below.heap_setCell w1 _ _ k hne).trans (hb1.block k hk)

end Go.Proofs.Ytdnfknphahmofaa.G
