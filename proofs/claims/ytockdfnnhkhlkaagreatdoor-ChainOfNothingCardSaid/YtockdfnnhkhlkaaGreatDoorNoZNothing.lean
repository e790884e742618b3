/- ChainOfNothing: a nil Chain has nothing. For every extrinsic. -/
import Derived.Test.YtockdfnnhkhlkaaGreatDoorNoFrameZ
import Derived.Test.YtockdfnnhkhlkaaGreatDoorNoGx6
import Derived.Test.YtockdfnnhkhlkaaGreatDoorNoZSize
import Derived.Test.YtockdfnnhkhlkaaGreatDoorNoZKnown14
namespace Go.Proofs.YtockdfnnhkhlkaaGreatDoor.LawChainOfNothing
set_option linter.unusedSimpArgs false
set_option linter.unusedVariables false
open Go.ChangeShapes Go.WideShapes Go.ChangeAt Go.RowKit Go.Shelf Go.Proofs.YtockdfnnhkhlkaaGreatDoor.G Go.Proofs.YtockdfnnhkhlkaaGreatDoor.PNum Go.Proofs.YtockdfnnhkhlkaaGreatDoor.Frame Go.Proofs.YtockdfnnhkhlkaaGreatDoorW.PrintWords Go.Proofs.YtockdfnnhkhlkaaGreatDoorW.PrintMore Go.Proofs.YtockdfnnhkhlkaaGreatDoorW.PrintLast

set_option maxHeartbeats 1000000 in
theorem nilNow (w : World) : Calls Tryz.prog 11 #[.pointer none] w fun e w' => e = .returned (.int .i64 0) ∧ w' = w := by
  go_enter Tryz.func11, Tryz.ntmps11
  go_wp2
  go_ret
  exact ⟨rfl, rfl⟩
set_option maxHeartbeats 1000000 in
theorem nilLedger (w : World) : Calls Tryz.prog 12 #[.pointer none] w fun e w' => e = .returned (.pointer none) ∧ w' = w := by
  go_enter Tryz.func12, Tryz.ntmps12
  go_wp2
  go_ret
  exact ⟨rfl, rfl⟩
set_option maxHeartbeats 1000000 in
theorem nilVoting (w : World) : Calls Tryz.prog 13 #[.pointer none] w fun e w' => e = .returned (.pointer none) ∧ w' = w := by
  go_enter Tryz.func13, Tryz.ntmps13
  go_wp2
  go_ret
  exact ⟨rfl, rfl⟩
set_option maxHeartbeats 1000000 in
theorem nilRefer (w : World) : Calls Tryz.prog 14 #[.pointer none] w fun e w' => e = .returned (.pointer none) ∧ w' = w := by
  go_enter Tryz.func14, Tryz.ntmps14
  go_wp2
  go_ret
  exact ⟨rfl, rfl⟩
set_option maxHeartbeats 1000000 in
theorem nilPre (w : World) : Calls Tryz.prog 15 #[.pointer none] w fun e w' => e = .returned (.pointer none) ∧ w' = w := by
  go_enter Tryz.func15, Tryz.ntmps15
  go_wp2
  go_ret
  exact ⟨rfl, rfl⟩
set_option maxHeartbeats 1000000 in
theorem nilAgenda (w : World) : Calls Tryz.prog 16 #[.pointer none] w fun e w' => e = .returned (.pointer none) ∧ w' = w := by
  go_enter Tryz.func16, Tryz.ntmps16
  go_wp2
  go_ret
  exact ⟨rfl, rfl⟩
set_option maxHeartbeats 1000000 in
theorem nilBlock (w : World) : Calls Tryz.prog 10 #[.pointer none] w fun e w' => e = .returned (.slice none 0 0) ∧ w' = w := by
  go_enter Tryz.func10, Tryz.ntmps10
  go_wp2
  go_ret
  exact ⟨rfl, rfl⟩
def ext0 (k who : Int) : Ext := ⟨k, who, 0, 0, 0, 0, 0, List.replicate 32 0, 0, false, 0, 0, 0, 0, z28⟩
theorem info_ext' : (Tryz.prog.info? 30).map (·.size) = some 49 := by kernel_rfl
set_option maxRecDepth 100000 in
set_option maxHeartbeats 4000000 in
theorem nilApply (L : List Value) (hL : (Tryz.prog.info? 30).map (·.size) = some L.length) (w : World) : Calls Tryz.prog 9 #[.pointer none, .agg L.toArray] w fun e w' => e = .returned (.int .i64 1) ∧ Below w.heap.size w w' := by
  have HIL := Aside0.mk hL
  clear hL
  go_enter Tryz.func9, Tryz.ntmps9
  go_wp2_with (first
    | ((with_reducible refine gate_dst (N := 3) rfl ?_); refine box_event ?hg (N := 3) ?hd (cs := L.toArray) (t := 30) ?hr ?_; (case hd => rfl); (case hg => rfl); (case hr => first | (go_simp; done) | (go_simp; rfl)); intro g3 hg1 w1 hbox1 hb1; have hT0 := hb1; clear hg1 hbox1 hb1))
  go_ret
  exact ⟨rfl, hT0⟩

set_option maxRecDepth 100000 in
set_option maxHeartbeats 8000000 in
theorem walk (x : Ext) (A : Option Addr) (c : Nat) (W : World) (hx : x.sum.length = 32) (hC : Kd.C k28 W A x.call.f3.length x.call.f3) (hc : x.call.f3.length ≤ c) :
    Calls Tryz.prog 3 #[.agg (x.cells A c).toArray] W fun e w' => e = .returned (.bool true) ∧ Below W.heap.size W w' := by
  obtain ⟨F, hF⟩ := fits_kids W x.call A hC
  obtain ⟨k, r, hs⟩ := size_some F x.call hF
  obtain ⟨L, hL⟩ : ∃ L, L = x.cells A c := ⟨_, rfl⟩
  have HIL : Aside0 ((Tryz.prog.info? 30).map (·.size) = some L.length) := ⟨by rw [hL, Ext.cells_length _ _ _ hx]; exact info_ext'⟩
  have HCC0 := Aside0.mk (fun (w' : World) (g : Nat) (h : w'.rangeAt g 0 L) => x.at_call A c hx (hL ▸ h))
  have HCC : Aside0 (∀ {g : Nat} (w' : World) (h : w'.rangeAt g 0 L), w'.cell? ⟨g, 45, none⟩ = some (.int .i64 x.call.f0) ∧ w'.cell? ⟨g, 46, none⟩ = some (.int .i64 x.call.f1) ∧ w'.cell? ⟨g, 47, none⟩ = some (.int .i64 x.call.f2) ∧ w'.cell? ⟨g, 48, none⟩ = some (.slice A x.call.f3.length c)) := ⟨fun w' h => HCC0.out w' _ h⟩
  rw [← hL]
  have HC := Aside0.mk hC
  have Hc := Aside0.mk hc
  have HS := Aside0.mk hs
  clear hL hC hc hx hs hF HCC0
  by_cases h1 : r ≥ 300
  · have d1 : decide (r ≥ 300) = true := decide_eq_true h1
    go_enter Tryz.func3, Tryz.ntmps3
    go_upto_region 1 with ((with_reducible refine gate_dst (N := 1) rfl ?_); refine box_event ?hg (N := 1) ?hd (cs := L.toArray) (t := 30) ?hr ?_; (case hd => rfl); (case hg => rfl); (case hr => first | (go_simp; done) | (go_simp; rfl)); intro g3 hg1 w1 hbox1 hb1; have hR3 := rangeAt_box hbox1; have hZ3 := blk_lt hbox1; have hT0 := hb1; clear hg1 hbox1 hb1)
    obtain ⟨c0, c1, c2', c3⟩ := HCC.out _ hR3
    go_wp2_with (first
      | (go_at_call 8; with_reducible refine (althinglaw14_size.calls k x.call.f0 x.call.f1 x.call.f2 A c x.call.f3 r _ (Kd.C_below HC.out hT0) Hc.out HS.out).mono ?_; rintro e w2 ⟨rfl, hB5⟩; replace hR3 := rangeAt_below hR3 hB5 hZ3; replace hT0 := below_step hT0 hB5; replace hZ3 := Nat.lt_of_lt_of_le hZ3 hB5.size; clear hB5))
    all_goals go_ret
    all_goals exact ⟨rfl, hT0⟩
  have d1 : decide (r ≥ 300) = false := decide_eq_false h1
  go_enter Tryz.func3, Tryz.ntmps3
  go_upto_region 1 with ((with_reducible refine gate_dst (N := 1) rfl ?_); refine box_event ?hg (N := 1) ?hd (cs := L.toArray) (t := 30) ?hr ?_; (case hd => rfl); (case hg => rfl); (case hr => first | (go_simp; done) | (go_simp; rfl)); intro g3 hg1 w1 hbox1 hb1; have hR3 := rangeAt_box hbox1; have hZ3 := blk_lt hbox1; have hT0 := hb1; clear hg1 hbox1 hb1)
  obtain ⟨c0, c1, c2', c3⟩ := HCC.out _ hR3
  go_upto_region 4 with (first
    | (go_at_call 8; with_reducible refine (althinglaw14_size.calls k x.call.f0 x.call.f1 x.call.f2 A c x.call.f3 r _ (Kd.C_below HC.out hT0) Hc.out HS.out).mono ?_; rintro e w2 ⟨rfl, hB5⟩; replace hR3 := rangeAt_below hR3 hB5 hZ3; replace hT0 := below_step hT0 hB5; replace hZ3 := Nat.lt_of_lt_of_le hZ3 hB5.size; clear hB5))
  clear c0 c1 c2' c3
  go_wp2_with (first
    | ((with_reducible refine gate_dst (N := 9) rfl ?_); refine wpList_load_mid rfl 30 _ rfl g3 0 rfl L _ hR3 Tryz.underlying30 rfl HIL.out ?_)
    | (go_at_call 9; go_loud (refine (nilApply L HIL.out _).mono ?_; rintro e w3 ⟨rfl, hB5⟩; replace hT0 := below_step hT0 hB5; clear hB5 hR3 hZ3))
    | (go_at_call 11; go_loud (refine (nilNow _).mono ?_; rintro e w4 ⟨rfl, rfl⟩))
    | (go_at_call 12; go_loud (refine (nilLedger _).mono ?_; rintro e w4 ⟨rfl, rfl⟩))
    | (go_at_call 13; go_loud (refine (nilVoting _).mono ?_; rintro e w4 ⟨rfl, rfl⟩))
    | (go_at_call 14; go_loud (refine (nilRefer _).mono ?_; rintro e w4 ⟨rfl, rfl⟩))
    | (go_at_call 15; go_loud (refine (nilPre _).mono ?_; rintro e w4 ⟨rfl, rfl⟩))
    | (go_at_call 16; go_loud (refine (nilAgenda _).mono ?_; rintro e w4 ⟨rfl, rfl⟩))
    | (go_at_call 10; go_loud (refine (nilBlock _).mono ?_; rintro e w4 ⟨rfl, rfl⟩))
    | (go_at_call 17; go_loud (refine (known14_calls _).mono ?_; rintro e w5 ⟨rfl, hB5⟩; replace hT0 := below_step hT0 hB5; clear hB5)))
  all_goals go_ret
  all_goals exact ⟨rfl, hT0⟩

set_option maxRecDepth 100000 in
theorem walks : WalksD 3 Tryz.f3 := by
  intro H enc W base args ds ps hval hA _ _ _
  rw [Tryz.params3] at hA hval
  obtain ⟨v0, d0, rfl, rfl, h0⟩ := trodAll_one hA
  obtain ⟨A0, c0, x, rfl, hx, hC, hc⟩ := ArgCall.open_ext (hval 0 30 v0 rfl rfl) h0
  exact walk x A0 c0 W hx hC hc
end Go.Proofs.YtockdfnnhkhlkaaGreatDoor.LawChainOfNothing
