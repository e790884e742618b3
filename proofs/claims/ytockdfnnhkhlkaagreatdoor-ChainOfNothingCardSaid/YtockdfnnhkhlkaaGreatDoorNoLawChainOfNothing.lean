/- ChainOfNothing: a nil Chain has nothing. For every extrinsic. -/
import Derived.Test.YtockdfnnhkhlkaaGreatDoorNoZNothing
namespace Go.Proofs.YtockdfnnhkhlkaaGreatDoor.LawChainOfNothing
open Go.ChangeShapes Go.WideShapes Go.ChangeAt Go.RowKit Go.Proofs.YtockdfnnhkhlkaaGreatDoor.G Go.Proofs.YtockdfnnhkhlkaaGreatDoor.Frame
set_option linter.unusedVariables false
set_option maxRecDepth 100000 in
theorem rowed (os : Os) (started : os.Started) (H : Type) (enc : TypeId × Value → H) :
    ReturnsInHanded {} Tryz.checked os 3 .any (fun w args => (Rows.chainOfNothingSpec.pre enc Tryz.prog Tryz.f3 [] false w args ∧ laidMetH Tryz.prog laidL w) ∧ sizedMet enc Tryz.prog Tryz.f3 (OpenSpec.ofChange Rows.chainOfNothingSpec) false w args) (Rows.chainOfNothingSpec.post enc Tryz.prog Tryz.f3 false true false false) :=
  liftedD (s := Rows.chainOfNothingSpec) Tryz.func3 (by kernel_rfl) (by kernel_rfl) (by kernel_rfl) (by kernel_rfl) rfl
    (fun H ds h => by
      have h' : ds.length = 1 := h
      match ds, h' with
      | [d1], _ => rfl)
    os started H enc
    (ChangeSpec.witness_shaped (enc := enc) (C := Tryz.checked) (os := os) (X := fun w _ => laidMetH Tryz.prog laidL w) false (World.laidAll Tryz.prog os laidL) #[.agg ((ext0 0 0).cells none 0).toArray] 8 (World.laidAll_os _ _ _)
      (World.shaped_of_ZipB (by kernel_rfl) (by kernel_rfl)) (by kernel_rfl) (by kernel_rfl) (by kernel_rfl)
      (by rw [MakeChecks.laidMetH_plain _ _ _ (by kernel_rfl)]; exact laidMet_laidAll _ (by kernel_rfl) (by kernel_rfl))) walks
set_option maxRecDepth 100000 in
theorem fact0 : (Rows.chainOfNothingRow.inPlace == Tryz.prog.inPlace 3) = true := by kernel_rfl
set_option maxRecDepth 100000 in
theorem fact1 : (Rows.chainOfNothingRow.unfollowed == Tryz.prog.unfollowed 3) = true := by kernel_rfl
set_option maxRecDepth 100000 in
theorem fact2 : (Rows.chainOfNothingRow.recurses == Tryz.prog.recurses 3) = true := by kernel_rfl
set_option maxRecDepth 100000 in
theorem fact3 : (Rows.chainOfNothingRow.named == Tryz.prog.varsNamed 3) = true := by kernel_rfl
set_option maxRecDepth 100000 in
theorem closed : joinedFacts Tryz.prog 3 Tryz.f3 Rows.chainOfNothingSpec Rows.chainOfNothingRow = true := by
  unfold joinedFacts
  rw [fact0, fact1, fact2, fact3]
  kernel_rfl
theorem over : Rows.chainOfNothingRow.holds Tryz.pinned (OpenSpec.ofChange Rows.chainOfNothingSpec) :=
  OpenClaim.holds_of_wide 3 Tryz.f3 rfl rfl rfl rfl rfl rfl rfl ⟨rfl, rfl, rfl, rfl, rfl⟩ rfl rfl rfl rfl rfl (by kernel_rfl) Tryz.func3 closed
    (of_decide_eq_true (by kernel_rfl)) (by unfold Func.isWrapper; first | (rw [if_pos (by decide +kernel)]; kernel_rfl) | (rw [if_neg (by decide +kernel)]; exact ⟨rfl, rfl⟩))
    (fun os started H enc _ => rowed os started H enc)
theorem card : Rows.ChainOfNothingCardSaid :=
  Claim7.holds_tied_plain_at .later [] [.listed, .data] true (true, "ca017903dae1be76a6120c8c46aca48e3904b56abb20938806a391cecf5c85d9") false over (fun _ h => by cases h) (by kernel_rfl) (fun _ h => by cases h) chainOfNothing_row_tie rfl ⟨rfl, rfl⟩ (by kernel_rfl) rfl
    (fun f fn hf hfn => by
      obtain rfl : f = 3 := Option.some.inj ((show Tryz.prog.funcNamed "althing/althinglaw14.ChainOfNothing" = some 3 by kernel_rfl).symm.trans hf) |>.symm
      obtain rfl : fn = Tryz.f3 := (Option.some.inj (Tryz.func3.symm.trans hfn)).symm
      exact ⟨by kernel_rfl, fun j t ht => by
        have hm : t ∈ Tryz.f3.params.toList := by simpa using Array.mem_of_getElem? ht
        have hall : (Tryz.f3.params.toList.all fun u => !Tryz.prog.wantsStandIn u) = true := by kernel_rfl
        exact (show Tryz.prog.wantsStandIn t = false by simpa using List.all_eq_true.1 hall t hm)⟩)
    (by kernel_rfl)
end Go.Proofs.YtockdfnnhkhlkaaGreatDoor.LawChainOfNothing
namespace Go.Proofs.YtockdfnnhkhlkaaGreatDoor
/-- The row's card, under a short name, for the claim. -/
theorem chainOfNothing_holds : Rows.ChainOfNothingCardSaid := LawChainOfNothing.card
end Go.Proofs.YtockdfnnhkhlkaaGreatDoor
