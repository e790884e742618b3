/-
  NARROWER THAN 'FOR EVERY INPUT', by the rows' own cells (each row's printed sentence says how): CodeFields: loops · CodeNests: loops · CodeExts: loops · CodeBack: loops · CodeCut: loops.
  DERIVED. THE GIVEN ROWS OF THIS SEAT. 7 by the template 'for every input the law returns true; each argument reads behind the call as it read before'; 0 by the template 'total and deterministic' (their statements: YtilckocpgififaaTotals.lean).
  GIVEN WITH THE SEED: the statements are not yours to turn. If you find one false, say at which input.
  Laid BY PROGRAM, IN A SANDBOX (cutbox-rows.mjs): the forced cells as the released guide's own fill.sh prints them over the translation 03c1c6b8480e3fdc… (all of the seat's roots in one cut). By AI agents, Wed Nov 11 2026. No macro, syntax, notation, axiom, sorry.
-/
import Derived.Test.YtilckocpgififaaChecked
import GoSem.Claim
import GoSem.ClaimJoined
import GoSem.ClaimMapViews
import Derived.JoinedTies
import Derived.KernelRfl
namespace Go.Proofs.Ytilckocpgififaa
/- THE CELL 'sum', in the pinned program and in every row, IS THE sha256 OF THE DUMP (.gsa) THAT YtilckocpgififaaProg.lean LOADS. Nothing in Lean hashes anything: it is a label: what it is worth is what the hold of that sum in a sandbox is worth. -/
noncomputable def Try.pinned : Pinned := { name := "ytilckocpgififaa", sum := "03c1c6b8480e3fdc8f5804ba0cb005442cc0cda5558b3783cd2b61b172cb2009", checked := Try.checked }
namespace Rows
def none {H : Type} : Left H := { results := [], args := [] }

/-- 'althinglaw7.CodeDeep': WHATEVER THE INPUT: true; the input reads as it did. -/
def codeDeepSpec : ChangeSpec := { name := "codeDeep", fn := fun _ => fun
  | [d1, d2] => { results := [.lit (.bool true)], args := [d1, d2] }
  | _ => none }
def codeDeepRow : OpenClaim := { program := "ytilckocpgififaa", sum := "03c1c6b8480e3fdc8f5804ba0cb005442cc0cda5558b3783cd2b61b172cb2009", func := "althing/althinglaw7.CodeDeep", spec := "codeDeep", unfollowed := true, recurses := true, apart := false }
def CodeDeepSaid : Prop := codeDeepRow.holds Try.pinned (OpenSpec.ofChange codeDeepSpec)

/-- ITS FALSE NEIGHBOUR: 'it returns false'. Refute it at one input. -/
def codeDeepWrong : ChangeSpec := { name := "codeDeep", fn := fun _ => fun
  | [d1, d2] => { results := [.lit (.bool false)], args := [d1, d2] }
  | _ => none }
def CodeDeepWrongFalsely : Prop := codeDeepRow.holds Try.pinned (OpenSpec.ofChange codeDeepWrong)

/-- 'althinglaw7.CodeFields': WHATEVER THE INPUT: true; the input reads as it did. -/
def codeFieldsSpec : ChangeSpec := { name := "codeFields", fn := fun _ => fun
  | [d1, d2, d3] => { results := [.lit (.bool true)], args := [d1, d2, d3] }
  | _ => none }
def codeFieldsRow : OpenClaim := { program := "ytilckocpgififaa", sum := "03c1c6b8480e3fdc8f5804ba0cb005442cc0cda5558b3783cd2b61b172cb2009", func := "althing/althinglaw7.CodeFields", spec := "codeFields", unfollowed := true, recurses := true, loops := true, apart := false }
def CodeFieldsSaid : Prop := codeFieldsRow.holds Try.pinned (OpenSpec.ofChange codeFieldsSpec)

/-- ITS FALSE NEIGHBOUR: 'it returns false'. Refute it at one input. -/
def codeFieldsWrong : ChangeSpec := { name := "codeFields", fn := fun _ => fun
  | [d1, d2, d3] => { results := [.lit (.bool false)], args := [d1, d2, d3] }
  | _ => none }
def CodeFieldsWrongFalsely : Prop := codeFieldsRow.holds Try.pinned (OpenSpec.ofChange codeFieldsWrong)

/-- 'althinglaw7.CodeBounds': WHATEVER THE INPUT: true; the input reads as it did. -/
def codeBoundsSpec : ChangeSpec := { name := "codeBounds", fn := fun _ => fun
  | [d1, d2, d3] => { results := [.lit (.bool true)], args := [d1, d2, d3] }
  | _ => none }
def codeBoundsRow : OpenClaim := { program := "ytilckocpgififaa", sum := "03c1c6b8480e3fdc8f5804ba0cb005442cc0cda5558b3783cd2b61b172cb2009", func := "althing/althinglaw7.CodeBounds", spec := "codeBounds", unfollowed := true, recurses := true, apart := false }
def CodeBoundsSaid : Prop := codeBoundsRow.holds Try.pinned (OpenSpec.ofChange codeBoundsSpec)

/-- ITS FALSE NEIGHBOUR: 'it returns false'. Refute it at one input. -/
def codeBoundsWrong : ChangeSpec := { name := "codeBounds", fn := fun _ => fun
  | [d1, d2, d3] => { results := [.lit (.bool false)], args := [d1, d2, d3] }
  | _ => none }
def CodeBoundsWrongFalsely : Prop := codeBoundsRow.holds Try.pinned (OpenSpec.ofChange codeBoundsWrong)

/-- 'althinglaw7.CodeNests': WHATEVER THE INPUT: true; the input reads as it did. -/
def codeNestsSpec : ChangeSpec := { name := "codeNests", fn := fun _ => fun
  | [d] => { results := [.lit (.bool true)], args := [d] }
  | _ => none }
def codeNestsRow : OpenClaim := { program := "ytilckocpgififaa", sum := "03c1c6b8480e3fdc8f5804ba0cb005442cc0cda5558b3783cd2b61b172cb2009", func := "althing/althinglaw7.CodeNests", spec := "codeNests", unfollowed := true, recurses := true, loops := true, apart := false }
def CodeNestsSaid : Prop := codeNestsRow.holds Try.pinned (OpenSpec.ofChange codeNestsSpec)

/-- ITS FALSE NEIGHBOUR: 'it returns false'. Refute it at one input. -/
def codeNestsWrong : ChangeSpec := { name := "codeNests", fn := fun _ => fun
  | [d] => { results := [.lit (.bool false)], args := [d] }
  | _ => none }
def CodeNestsWrongFalsely : Prop := codeNestsRow.holds Try.pinned (OpenSpec.ofChange codeNestsWrong)

/-- 'althinglaw7.CodeExts': WHATEVER THE INPUT: true; the input reads as it did. -/
def codeExtsSpec : ChangeSpec := { name := "codeExts", fn := fun _ => fun
  | [d1, d2, d3] => { results := [.lit (.bool true)], args := [d1, d2, d3] }
  | _ => none }
def codeExtsRow : OpenClaim := { program := "ytilckocpgififaa", sum := "03c1c6b8480e3fdc8f5804ba0cb005442cc0cda5558b3783cd2b61b172cb2009", func := "althing/althinglaw7.CodeExts", spec := "codeExts", unfollowed := true, recurses := true, loops := true, apart := false }
def CodeExtsSaid : Prop := codeExtsRow.holds Try.pinned (OpenSpec.ofChange codeExtsSpec)

/-- ITS FALSE NEIGHBOUR: 'it returns false'. Refute it at one input. -/
def codeExtsWrong : ChangeSpec := { name := "codeExts", fn := fun _ => fun
  | [d1, d2, d3] => { results := [.lit (.bool false)], args := [d1, d2, d3] }
  | _ => none }
def CodeExtsWrongFalsely : Prop := codeExtsRow.holds Try.pinned (OpenSpec.ofChange codeExtsWrong)

/-- 'althinglaw7.CodeBack': WHATEVER THE INPUT: true; the input reads as it did. -/
def codeBackSpec : ChangeSpec := { name := "codeBack", fn := fun _ => fun
  | [d1, d2] => { results := [.lit (.bool true)], args := [d1, d2] }
  | _ => none }
def codeBackRow : OpenClaim := { program := "ytilckocpgififaa", sum := "03c1c6b8480e3fdc8f5804ba0cb005442cc0cda5558b3783cd2b61b172cb2009", func := "althing/althinglaw7.CodeBack", spec := "codeBack", unfollowed := true, recurses := true, loops := true, apart := false }
def CodeBackSaid : Prop := codeBackRow.holds Try.pinned (OpenSpec.ofChange codeBackSpec)

/-- ITS FALSE NEIGHBOUR: 'it returns false'. Refute it at one input. -/
def codeBackWrong : ChangeSpec := { name := "codeBack", fn := fun _ => fun
  | [d1, d2] => { results := [.lit (.bool false)], args := [d1, d2] }
  | _ => none }
def CodeBackWrongFalsely : Prop := codeBackRow.holds Try.pinned (OpenSpec.ofChange codeBackWrong)

/-- 'althinglaw7.CodeCut': WHATEVER THE INPUT: true; the input reads as it did. -/
def codeCutSpec : ChangeSpec := { name := "codeCut", fn := fun _ => fun
  | [d1, d2, d3] => { results := [.lit (.bool true)], args := [d1, d2, d3] }
  | _ => none }
def codeCutRow : OpenClaim := { program := "ytilckocpgififaa", sum := "03c1c6b8480e3fdc8f5804ba0cb005442cc0cda5558b3783cd2b61b172cb2009", func := "althing/althinglaw7.CodeCut", spec := "codeCut", unfollowed := true, recurses := true, loops := true, apart := false }
def CodeCutSaid : Prop := codeCutRow.holds Try.pinned (OpenSpec.ofChange codeCutSpec)

/-- ITS FALSE NEIGHBOUR: 'it returns false'. Refute it at one input. -/
def codeCutWrong : ChangeSpec := { name := "codeCut", fn := fun _ => fun
  | [d1, d2, d3] => { results := [.lit (.bool false)], args := [d1, d2, d3] }
  | _ => none }
def CodeCutWrongFalsely : Prop := codeCutRow.holds Try.pinned (OpenSpec.ofChange codeCutWrong)

/- THE SECOND FORM. 'bulk': how many values and letters a reading holds, each counted each time it is reached (what is shared counts as often as it is met; a slice's spare places count too). A statement '..UptoSaid' is the law's where the arguments, and the package variables that the reading takes, are together of bulk at most 1048576: NARROWER than '..Said'. Prove '..Said' where nothing that the law and all that it calls make is longer than what came in: it says more and counts as full. Else prove '..UptoSaid'. A law counts once. -/
mutual
def uptoBulk {H : Type} : DataW H → Nat
  | .lit (.string bytes) => bytes.length + 1
  | .lit _ => 1
  | .nil => 1
  | .ptr d => uptoBulk d + 1
  | .slice elems spare => uptoBulkAll elems + uptoBulkAll spare + 1
  | .agg parts => uptoBulkAll parts + 1
  | .iface _ d => uptoBulk d + 1
  | .map entries => uptoBulkEntries entries + 1
  | .held _ => 1
def uptoBulkAll {H : Type} : List (DataW H) → Nat
  | [] => 0
  | d :: r => uptoBulk d + uptoBulkAll r
def uptoBulkEntries {H : Type} : List (Lit × DataW H) → Nat
  | [] => 0
  | x :: r => uptoBulkEntry x + uptoBulkEntries r
def uptoBulkEntry {H : Type} : Lit × DataW H → Nat
  | (.string bytes, d) => bytes.length + uptoBulk d + 1
  | (_, d) => uptoBulk d + 1
 end
def uptoSmall : (H : Type) → List (DataW H) → Bool := fun _ ds => decide (uptoBulkAll ds ≤ 1048576)
def OpenSpec.upto (s : _root_.Go.ChangeSpec) : _root_.Go.OpenSpec := { _root_.Go.OpenSpec.ofChange s with cond := some uptoSmall }

/-- 'althinglaw7.CodeDeep', WHERE WHAT IT READS IS OF BULK AT MOST 1048576: true; the input reads as it did. -/
def codeDeepUptoRow : OpenClaim := { program := "ytilckocpgififaa", sum := "03c1c6b8480e3fdc8f5804ba0cb005442cc0cda5558b3783cd2b61b172cb2009", func := "althing/althinglaw7.CodeDeep", spec := "codeDeep", unfollowed := true, recurses := true, apart := false, narrowed := true }
def CodeDeepUptoSaid : Prop := codeDeepUptoRow.holds Try.pinned (OpenSpec.upto codeDeepSpec)

/-- 'althinglaw7.CodeFields', WHERE WHAT IT READS IS OF BULK AT MOST 1048576: true; the input reads as it did. -/
def codeFieldsUptoRow : OpenClaim := { program := "ytilckocpgififaa", sum := "03c1c6b8480e3fdc8f5804ba0cb005442cc0cda5558b3783cd2b61b172cb2009", func := "althing/althinglaw7.CodeFields", spec := "codeFields", unfollowed := true, recurses := true, loops := true, apart := false, narrowed := true }
def CodeFieldsUptoSaid : Prop := codeFieldsUptoRow.holds Try.pinned (OpenSpec.upto codeFieldsSpec)

/-- 'althinglaw7.CodeBounds', WHERE WHAT IT READS IS OF BULK AT MOST 1048576: true; the input reads as it did. -/
def codeBoundsUptoRow : OpenClaim := { program := "ytilckocpgififaa", sum := "03c1c6b8480e3fdc8f5804ba0cb005442cc0cda5558b3783cd2b61b172cb2009", func := "althing/althinglaw7.CodeBounds", spec := "codeBounds", unfollowed := true, recurses := true, apart := false, narrowed := true }
def CodeBoundsUptoSaid : Prop := codeBoundsUptoRow.holds Try.pinned (OpenSpec.upto codeBoundsSpec)

/-- 'althinglaw7.CodeNests', WHERE WHAT IT READS IS OF BULK AT MOST 1048576: true; the input reads as it did. -/
def codeNestsUptoRow : OpenClaim := { program := "ytilckocpgififaa", sum := "03c1c6b8480e3fdc8f5804ba0cb005442cc0cda5558b3783cd2b61b172cb2009", func := "althing/althinglaw7.CodeNests", spec := "codeNests", unfollowed := true, recurses := true, loops := true, apart := false, narrowed := true }
def CodeNestsUptoSaid : Prop := codeNestsUptoRow.holds Try.pinned (OpenSpec.upto codeNestsSpec)

/-- 'althinglaw7.CodeExts', WHERE WHAT IT READS IS OF BULK AT MOST 1048576: true; the input reads as it did. -/
def codeExtsUptoRow : OpenClaim := { program := "ytilckocpgififaa", sum := "03c1c6b8480e3fdc8f5804ba0cb005442cc0cda5558b3783cd2b61b172cb2009", func := "althing/althinglaw7.CodeExts", spec := "codeExts", unfollowed := true, recurses := true, loops := true, apart := false, narrowed := true }
def CodeExtsUptoSaid : Prop := codeExtsUptoRow.holds Try.pinned (OpenSpec.upto codeExtsSpec)

/-- 'althinglaw7.CodeBack', WHERE WHAT IT READS IS OF BULK AT MOST 1048576: true; the input reads as it did. -/
def codeBackUptoRow : OpenClaim := { program := "ytilckocpgififaa", sum := "03c1c6b8480e3fdc8f5804ba0cb005442cc0cda5558b3783cd2b61b172cb2009", func := "althing/althinglaw7.CodeBack", spec := "codeBack", unfollowed := true, recurses := true, loops := true, apart := false, narrowed := true }
def CodeBackUptoSaid : Prop := codeBackUptoRow.holds Try.pinned (OpenSpec.upto codeBackSpec)

/-- 'althinglaw7.CodeCut', WHERE WHAT IT READS IS OF BULK AT MOST 1048576: true; the input reads as it did. -/
def codeCutUptoRow : OpenClaim := { program := "ytilckocpgififaa", sum := "03c1c6b8480e3fdc8f5804ba0cb005442cc0cda5558b3783cd2b61b172cb2009", func := "althing/althinglaw7.CodeCut", spec := "codeCut", unfollowed := true, recurses := true, loops := true, apart := false, narrowed := true }
def CodeCutUptoSaid : Prop := codeCutUptoRow.holds Try.pinned (OpenSpec.upto codeCutSpec)

end Rows
end Go.Proofs.Ytilckocpgififaa
