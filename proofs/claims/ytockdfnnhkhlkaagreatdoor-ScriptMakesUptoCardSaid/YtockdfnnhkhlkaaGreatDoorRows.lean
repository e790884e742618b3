/-
  NARROWER THAN 'FOR EVERY INPUT', by the rows' own cells (each row's printed sentence says how): ChainOfNothing: loops, laid · ScriptRows: laid · ScriptStops: laid · ScriptMakes: laid · ScriptBlocks: laid.
  DERIVED. THE GIVEN ROWS OF THIS SEAT. 5 by the template 'for every input the law returns true; each argument reads behind the call as it read before'; 0 by the template 'total and deterministic' (their statements: YtockdfnnhkhlkaaGreatDoorTotals.lean).
  GIVEN WITH THE SEED: the statements are not yours to turn. If you find one false, say at which input.
  Laid BY PROGRAM, IN A SANDBOX (cutbox-rows.mjs): the forced cells as the released guide's own fill.sh prints them over the translation 9963ffba14c59d29… (all of the seat's roots in one cut). By AI agents, Wed Nov 11 2026. No macro, syntax, notation, axiom, sorry.
-/
import Derived.Test.YtockdfnnhkhlkaaGreatDoorChecked
import GoSem.Claim
import GoSem.ClaimJoined
import GoSem.ClaimMapViews
import Derived.JoinedTies
import Derived.KernelRfl
namespace Go.Proofs.YtockdfnnhkhlkaaGreatDoor
/- THE CELL 'sum', in the pinned program and in every row, IS THE sha256 OF THE DUMP (.gsa) THAT YtockdfnnhkhlkaaGreatDoorProg.lean LOADS. Nothing in Lean hashes anything: it is a label: what it is worth is what the hold of that sum in a sandbox is worth. -/
noncomputable def Tryz.pinned : Pinned := { name := "ytockdfnnhkhlkaagreatdoor", sum := "9963ffba14c59d29412b553d84cab470ebcc15a4de0b45c070baac6e7611f638", checked := Tryz.checked }
namespace Rows
def none {H : Type} : Left H := { results := [], args := [] }

/- WHAT THE LISTED PACKAGE-LEVEL VARIABLES READ AS WHEN THE CALL BEGINS. Each datum BY PROGRAM (the guide's laid-datum.mjs) off the statement by which the dump's own 'gosem.cut.vars' lays the variable. In a bare row this is a premise. The card (YtockdfnnhkhlkaaGreatDoorCards.lean) ties it to the program's text. -/
def laid_unicode_White_Space {H : Type} : DataW H := .ptr (.agg [.slice [.agg [.lit (.int .u16 9), .lit (.int .u16 13), .lit (.int .u16 1)], .agg [.lit (.int .u16 32), .lit (.int .u16 133), .lit (.int .u16 101)], .agg [.lit (.int .u16 160), .lit (.int .u16 5760), .lit (.int .u16 5600)], .agg [.lit (.int .u16 8192), .lit (.int .u16 8202), .lit (.int .u16 1)], .agg [.lit (.int .u16 8232), .lit (.int .u16 8233), .lit (.int .u16 1)], .agg [.lit (.int .u16 8239), .lit (.int .u16 8287), .lit (.int .u16 48)], .agg [.lit (.int .u16 12288), .lit (.int .u16 12288), .lit (.int .u16 1)]] [], .nil, .lit (.int .i64 2)])
def laid_strings_asciiSpace {H : Type} : DataW H := .agg [.lit (.int .u8 0), .lit (.int .u8 0), .lit (.int .u8 0), .lit (.int .u8 0), .lit (.int .u8 0), .lit (.int .u8 0), .lit (.int .u8 0), .lit (.int .u8 0), .lit (.int .u8 0), .lit (.int .u8 1), .lit (.int .u8 1), .lit (.int .u8 1), .lit (.int .u8 1), .lit (.int .u8 1), .lit (.int .u8 0), .lit (.int .u8 0), .lit (.int .u8 0), .lit (.int .u8 0), .lit (.int .u8 0), .lit (.int .u8 0), .lit (.int .u8 0), .lit (.int .u8 0), .lit (.int .u8 0), .lit (.int .u8 0), .lit (.int .u8 0), .lit (.int .u8 0), .lit (.int .u8 0), .lit (.int .u8 0), .lit (.int .u8 0), .lit (.int .u8 0), .lit (.int .u8 0), .lit (.int .u8 0), .lit (.int .u8 1), .lit (.int .u8 0), .lit (.int .u8 0), .lit (.int .u8 0), .lit (.int .u8 0), .lit (.int .u8 0), .lit (.int .u8 0), .lit (.int .u8 0), .lit (.int .u8 0), .lit (.int .u8 0), .lit (.int .u8 0), .lit (.int .u8 0), .lit (.int .u8 0), .lit (.int .u8 0), .lit (.int .u8 0), .lit (.int .u8 0), .lit (.int .u8 0), .lit (.int .u8 0), .lit (.int .u8 0), .lit (.int .u8 0), .lit (.int .u8 0), .lit (.int .u8 0), .lit (.int .u8 0), .lit (.int .u8 0), .lit (.int .u8 0), .lit (.int .u8 0), .lit (.int .u8 0), .lit (.int .u8 0), .lit (.int .u8 0), .lit (.int .u8 0), .lit (.int .u8 0), .lit (.int .u8 0), .lit (.int .u8 0), .lit (.int .u8 0), .lit (.int .u8 0), .lit (.int .u8 0), .lit (.int .u8 0), .lit (.int .u8 0), .lit (.int .u8 0), .lit (.int .u8 0), .lit (.int .u8 0), .lit (.int .u8 0), .lit (.int .u8 0), .lit (.int .u8 0), .lit (.int .u8 0), .lit (.int .u8 0), .lit (.int .u8 0), .lit (.int .u8 0), .lit (.int .u8 0), .lit (.int .u8 0), .lit (.int .u8 0), .lit (.int .u8 0), .lit (.int .u8 0), .lit (.int .u8 0), .lit (.int .u8 0), .lit (.int .u8 0), .lit (.int .u8 0), .lit (.int .u8 0), .lit (.int .u8 0), .lit (.int .u8 0), .lit (.int .u8 0), .lit (.int .u8 0), .lit (.int .u8 0), .lit (.int .u8 0), .lit (.int .u8 0), .lit (.int .u8 0), .lit (.int .u8 0), .lit (.int .u8 0), .lit (.int .u8 0), .lit (.int .u8 0), .lit (.int .u8 0), .lit (.int .u8 0), .lit (.int .u8 0), .lit (.int .u8 0), .lit (.int .u8 0), .lit (.int .u8 0), .lit (.int .u8 0), .lit (.int .u8 0), .lit (.int .u8 0), .lit (.int .u8 0), .lit (.int .u8 0), .lit (.int .u8 0), .lit (.int .u8 0), .lit (.int .u8 0), .lit (.int .u8 0), .lit (.int .u8 0), .lit (.int .u8 0), .lit (.int .u8 0), .lit (.int .u8 0), .lit (.int .u8 0), .lit (.int .u8 0), .lit (.int .u8 0), .lit (.int .u8 0), .lit (.int .u8 0), .lit (.int .u8 0), .lit (.int .u8 0), .lit (.int .u8 0), .lit (.int .u8 0), .lit (.int .u8 0), .lit (.int .u8 0), .lit (.int .u8 0), .lit (.int .u8 0), .lit (.int .u8 0), .lit (.int .u8 0), .lit (.int .u8 0), .lit (.int .u8 0), .lit (.int .u8 0), .lit (.int .u8 0), .lit (.int .u8 0), .lit (.int .u8 0), .lit (.int .u8 0), .lit (.int .u8 0), .lit (.int .u8 0), .lit (.int .u8 0), .lit (.int .u8 0), .lit (.int .u8 0), .lit (.int .u8 0), .lit (.int .u8 0), .lit (.int .u8 0), .lit (.int .u8 0), .lit (.int .u8 0), .lit (.int .u8 0), .lit (.int .u8 0), .lit (.int .u8 0), .lit (.int .u8 0), .lit (.int .u8 0), .lit (.int .u8 0), .lit (.int .u8 0), .lit (.int .u8 0), .lit (.int .u8 0), .lit (.int .u8 0), .lit (.int .u8 0), .lit (.int .u8 0), .lit (.int .u8 0), .lit (.int .u8 0), .lit (.int .u8 0), .lit (.int .u8 0), .lit (.int .u8 0), .lit (.int .u8 0), .lit (.int .u8 0), .lit (.int .u8 0), .lit (.int .u8 0), .lit (.int .u8 0), .lit (.int .u8 0), .lit (.int .u8 0), .lit (.int .u8 0), .lit (.int .u8 0), .lit (.int .u8 0), .lit (.int .u8 0), .lit (.int .u8 0), .lit (.int .u8 0), .lit (.int .u8 0), .lit (.int .u8 0), .lit (.int .u8 0), .lit (.int .u8 0), .lit (.int .u8 0), .lit (.int .u8 0), .lit (.int .u8 0), .lit (.int .u8 0), .lit (.int .u8 0), .lit (.int .u8 0), .lit (.int .u8 0), .lit (.int .u8 0), .lit (.int .u8 0), .lit (.int .u8 0), .lit (.int .u8 0), .lit (.int .u8 0), .lit (.int .u8 0), .lit (.int .u8 0), .lit (.int .u8 0), .lit (.int .u8 0), .lit (.int .u8 0), .lit (.int .u8 0), .lit (.int .u8 0), .lit (.int .u8 0), .lit (.int .u8 0), .lit (.int .u8 0), .lit (.int .u8 0), .lit (.int .u8 0), .lit (.int .u8 0), .lit (.int .u8 0), .lit (.int .u8 0), .lit (.int .u8 0), .lit (.int .u8 0), .lit (.int .u8 0), .lit (.int .u8 0), .lit (.int .u8 0), .lit (.int .u8 0), .lit (.int .u8 0), .lit (.int .u8 0), .lit (.int .u8 0), .lit (.int .u8 0), .lit (.int .u8 0), .lit (.int .u8 0), .lit (.int .u8 0), .lit (.int .u8 0), .lit (.int .u8 0), .lit (.int .u8 0), .lit (.int .u8 0), .lit (.int .u8 0), .lit (.int .u8 0), .lit (.int .u8 0), .lit (.int .u8 0), .lit (.int .u8 0), .lit (.int .u8 0), .lit (.int .u8 0), .lit (.int .u8 0), .lit (.int .u8 0), .lit (.int .u8 0), .lit (.int .u8 0), .lit (.int .u8 0), .lit (.int .u8 0), .lit (.int .u8 0), .lit (.int .u8 0), .lit (.int .u8 0), .lit (.int .u8 0), .lit (.int .u8 0), .lit (.int .u8 0), .lit (.int .u8 0), .lit (.int .u8 0), .lit (.int .u8 0), .lit (.int .u8 0), .lit (.int .u8 0), .lit (.int .u8 0)]

/-- 'althinglaw14.ChainOfNothing': WHATEVER THE INPUT: true; the input reads as it did. -/
def chainOfNothingSpec : ChangeSpec := { name := "chainOfNothing", fn := fun _ => fun
  | [d] => { results := [.lit (.bool true)], args := [d] }
  | _ => none }
def chainOfNothingRow : OpenClaim := { program := "ytockdfnnhkhlkaagreatdoor", sum := "9963ffba14c59d29412b553d84cab470ebcc15a4de0b45c070baac6e7611f638", func := "althing/althinglaw14.ChainOfNothing", spec := "chainOfNothing", inPlace := ["internal/bytealg.IndexByteString", "slices.overlaps[althing/grid.cell[althing/api.Referendum]]", "slices.overlaps[althing/grid.cell[*althing/voting.record]]", "slices.overlaps[althing/grid.cell[althing/api.Vote]]", "slices.overlaps[althing/grid.cell[int]]", "slices.overlaps[althing/api.Task]"], unfollowed := true, recurses := true, named := ["strings.asciiSpace", "unicode.White_Space"], loops := true, plainKeys := false, apart := false, laid := [("unicode.White_Space", laid_unicode_White_Space), ("strings.asciiSpace", laid_strings_asciiSpace)] }
def ChainOfNothingSaid : Prop := chainOfNothingRow.holds Tryz.pinned (OpenSpec.ofChange chainOfNothingSpec)

/-- ITS FALSE NEIGHBOUR: 'it returns false'. Refute it at one input. -/
def chainOfNothingWrong : ChangeSpec := { name := "chainOfNothing", fn := fun _ => fun
  | [d] => { results := [.lit (.bool false)], args := [d] }
  | _ => none }
def ChainOfNothingWrongFalsely : Prop := chainOfNothingRow.holds Tryz.pinned (OpenSpec.ofChange chainOfNothingWrong)

/-- 'althinglaw15.ScriptRows': WHATEVER THE INPUT: true; the input reads as it did. -/
def scriptRowsSpec : ChangeSpec := { name := "scriptRows", fn := fun _ => fun
  | [d] => { results := [.lit (.bool true)], args := [d] }
  | _ => none }
def scriptRowsRow : OpenClaim := { program := "ytockdfnnhkhlkaagreatdoor", sum := "9963ffba14c59d29412b553d84cab470ebcc15a4de0b45c070baac6e7611f638", func := "althing/althinglaw15.ScriptRows", spec := "scriptRows", inPlace := ["slices.overlaps[althing/grid.cell[althing/api.Referendum]]", "slices.overlaps[althing/api.Task]", "internal/bytealg.IndexByteString", "slices.overlaps[althing/grid.cell[*althing/voting.record]]", "slices.overlaps[althing/grid.cell[althing/api.Vote]]", "slices.overlaps[althing/grid.cell[int]]"], unfollowed := true, recurses := true, named := ["strings.asciiSpace", "unicode.White_Space"], plainKeys := false, apart := false, laid := [("unicode.White_Space", laid_unicode_White_Space), ("strings.asciiSpace", laid_strings_asciiSpace)] }
def ScriptRowsSaid : Prop := scriptRowsRow.holds Tryz.pinned (OpenSpec.ofChange scriptRowsSpec)

/-- ITS FALSE NEIGHBOUR: 'it returns false'. Refute it at one input. -/
def scriptRowsWrong : ChangeSpec := { name := "scriptRows", fn := fun _ => fun
  | [d] => { results := [.lit (.bool false)], args := [d] }
  | _ => none }
def ScriptRowsWrongFalsely : Prop := scriptRowsRow.holds Tryz.pinned (OpenSpec.ofChange scriptRowsWrong)

/-- 'althinglaw15.ScriptStops': WHATEVER THE INPUT: true; the input reads as it did. -/
def scriptStopsSpec : ChangeSpec := { name := "scriptStops", fn := fun _ => fun
  | [d1, d2] => { results := [.lit (.bool true)], args := [d1, d2] }
  | _ => none }
def scriptStopsRow : OpenClaim := { program := "ytockdfnnhkhlkaagreatdoor", sum := "9963ffba14c59d29412b553d84cab470ebcc15a4de0b45c070baac6e7611f638", func := "althing/althinglaw15.ScriptStops", spec := "scriptStops", inPlace := ["slices.overlaps[althing/grid.cell[althing/api.Referendum]]", "slices.overlaps[althing/api.Task]", "internal/bytealg.IndexByteString", "slices.overlaps[althing/grid.cell[*althing/voting.record]]", "slices.overlaps[althing/grid.cell[althing/api.Vote]]", "slices.overlaps[althing/grid.cell[int]]"], unfollowed := true, recurses := true, named := ["strings.asciiSpace", "unicode.White_Space"], plainKeys := false, apart := false, laid := [("unicode.White_Space", laid_unicode_White_Space), ("strings.asciiSpace", laid_strings_asciiSpace)] }
def ScriptStopsSaid : Prop := scriptStopsRow.holds Tryz.pinned (OpenSpec.ofChange scriptStopsSpec)

/-- ITS FALSE NEIGHBOUR: 'it returns false'. Refute it at one input. -/
def scriptStopsWrong : ChangeSpec := { name := "scriptStops", fn := fun _ => fun
  | [d1, d2] => { results := [.lit (.bool false)], args := [d1, d2] }
  | _ => none }
def ScriptStopsWrongFalsely : Prop := scriptStopsRow.holds Tryz.pinned (OpenSpec.ofChange scriptStopsWrong)

/-- 'althinglaw15.ScriptMakes': WHATEVER THE INPUT: true; the input reads as it did. -/
def scriptMakesSpec : ChangeSpec := { name := "scriptMakes", fn := fun _ => fun
  | [d] => { results := [.lit (.bool true)], args := [d] }
  | _ => none }
def scriptMakesRow : OpenClaim := { program := "ytockdfnnhkhlkaagreatdoor", sum := "9963ffba14c59d29412b553d84cab470ebcc15a4de0b45c070baac6e7611f638", func := "althing/althinglaw15.ScriptMakes", spec := "scriptMakes", inPlace := ["slices.overlaps[althing/grid.cell[althing/api.Referendum]]", "slices.overlaps[althing/api.Task]", "internal/bytealg.IndexByteString", "slices.overlaps[althing/grid.cell[*althing/voting.record]]", "slices.overlaps[althing/grid.cell[althing/api.Vote]]", "slices.overlaps[althing/grid.cell[int]]"], unfollowed := true, recurses := true, named := ["strings.asciiSpace", "unicode.White_Space"], plainKeys := false, apart := false, laid := [("unicode.White_Space", laid_unicode_White_Space), ("strings.asciiSpace", laid_strings_asciiSpace)] }
def ScriptMakesSaid : Prop := scriptMakesRow.holds Tryz.pinned (OpenSpec.ofChange scriptMakesSpec)

/-- ITS FALSE NEIGHBOUR: 'it returns false'. Refute it at one input. -/
def scriptMakesWrong : ChangeSpec := { name := "scriptMakes", fn := fun _ => fun
  | [d] => { results := [.lit (.bool false)], args := [d] }
  | _ => none }
def ScriptMakesWrongFalsely : Prop := scriptMakesRow.holds Tryz.pinned (OpenSpec.ofChange scriptMakesWrong)

/-- 'althinglaw15.ScriptBlocks': WHATEVER THE INPUT: true; the input reads as it did. -/
def scriptBlocksSpec : ChangeSpec := { name := "scriptBlocks", fn := fun _ => fun
  | [d] => { results := [.lit (.bool true)], args := [d] }
  | _ => none }
def scriptBlocksRow : OpenClaim := { program := "ytockdfnnhkhlkaagreatdoor", sum := "9963ffba14c59d29412b553d84cab470ebcc15a4de0b45c070baac6e7611f638", func := "althing/althinglaw15.ScriptBlocks", spec := "scriptBlocks", inPlace := ["slices.overlaps[althing/grid.cell[althing/api.Referendum]]", "slices.overlaps[althing/api.Task]", "internal/bytealg.IndexByteString", "slices.overlaps[althing/grid.cell[*althing/voting.record]]", "slices.overlaps[althing/grid.cell[althing/api.Vote]]", "slices.overlaps[althing/grid.cell[int]]"], unfollowed := true, recurses := true, named := ["strings.asciiSpace", "unicode.White_Space"], plainKeys := false, apart := false, laid := [("unicode.White_Space", laid_unicode_White_Space), ("strings.asciiSpace", laid_strings_asciiSpace)] }
def ScriptBlocksSaid : Prop := scriptBlocksRow.holds Tryz.pinned (OpenSpec.ofChange scriptBlocksSpec)

/-- ITS FALSE NEIGHBOUR: 'it returns false'. Refute it at one input. -/
def scriptBlocksWrong : ChangeSpec := { name := "scriptBlocks", fn := fun _ => fun
  | [d] => { results := [.lit (.bool false)], args := [d] }
  | _ => none }
def ScriptBlocksWrongFalsely : Prop := scriptBlocksRow.holds Tryz.pinned (OpenSpec.ofChange scriptBlocksWrong)

/- THE SECOND FORM. 'bulk': how many values and letters a reading holds, each counted each time it is reached (what is shared counts as often as it is met; a slice's spare places count too). A statement '..UptoSaid' is the law's where the arguments, and the package variables that the reading takes, are together of bulk at most 1048576: NARROWER than '..Said'. Prove '..Said' where nothing that the law and all that it calls make is longer than what came in: it says more and counts as full. Else prove '..UptoSaid'. A law counts once. -/
mutual
def uptoBulk {H : Type} : DataW H → Nat
  | .lit (.string bytes) => bytes.length + 1
  | .lit _ => 1
  | .nil => 1
  | .ptr d => uptoBulk d + 1
  | .slice elems spare => uptoBulkAll elems + uptoBulkAll spare + 1
  | .agg parts => uptoBulkAll parts + 1
  | .iface _ d => uptoBulk d + 1
  | .map entries => uptoBulkEntries entries + 1
  | .held _ => 1
def uptoBulkAll {H : Type} : List (DataW H) → Nat
  | [] => 0
  | d :: r => uptoBulk d + uptoBulkAll r
def uptoBulkEntries {H : Type} : List (Lit × DataW H) → Nat
  | [] => 0
  | x :: r => uptoBulkEntry x + uptoBulkEntries r
def uptoBulkEntry {H : Type} : Lit × DataW H → Nat
  | (.string bytes, d) => bytes.length + uptoBulk d + 1
  | (_, d) => uptoBulk d + 1
 end
def uptoSmall : (H : Type) → List (DataW H) → Bool := fun _ ds => decide (uptoBulkAll ds ≤ 1048576)
def OpenSpec.upto (s : _root_.Go.ChangeSpec) : _root_.Go.OpenSpec := { _root_.Go.OpenSpec.ofChange s with cond := some uptoSmall }

/-- 'althinglaw14.ChainOfNothing', WHERE WHAT IT READS IS OF BULK AT MOST 1048576: true; the input reads as it did. -/
def chainOfNothingUptoRow : OpenClaim := { program := "ytockdfnnhkhlkaagreatdoor", sum := "9963ffba14c59d29412b553d84cab470ebcc15a4de0b45c070baac6e7611f638", func := "althing/althinglaw14.ChainOfNothing", spec := "chainOfNothing", inPlace := ["internal/bytealg.IndexByteString", "slices.overlaps[althing/grid.cell[althing/api.Referendum]]", "slices.overlaps[althing/grid.cell[*althing/voting.record]]", "slices.overlaps[althing/grid.cell[althing/api.Vote]]", "slices.overlaps[althing/grid.cell[int]]", "slices.overlaps[althing/api.Task]"], unfollowed := true, recurses := true, named := ["strings.asciiSpace", "unicode.White_Space"], loops := true, plainKeys := false, apart := false, laid := [("unicode.White_Space", laid_unicode_White_Space), ("strings.asciiSpace", laid_strings_asciiSpace)], narrowed := true }
def ChainOfNothingUptoSaid : Prop := chainOfNothingUptoRow.holds Tryz.pinned (OpenSpec.upto chainOfNothingSpec)

/-- 'althinglaw15.ScriptRows', WHERE WHAT IT READS IS OF BULK AT MOST 1048576: true; the input reads as it did. -/
def scriptRowsUptoRow : OpenClaim := { program := "ytockdfnnhkhlkaagreatdoor", sum := "9963ffba14c59d29412b553d84cab470ebcc15a4de0b45c070baac6e7611f638", func := "althing/althinglaw15.ScriptRows", spec := "scriptRows", inPlace := ["slices.overlaps[althing/grid.cell[althing/api.Referendum]]", "slices.overlaps[althing/api.Task]", "internal/bytealg.IndexByteString", "slices.overlaps[althing/grid.cell[*althing/voting.record]]", "slices.overlaps[althing/grid.cell[althing/api.Vote]]", "slices.overlaps[althing/grid.cell[int]]"], unfollowed := true, recurses := true, named := ["strings.asciiSpace", "unicode.White_Space"], plainKeys := false, apart := false, laid := [("unicode.White_Space", laid_unicode_White_Space), ("strings.asciiSpace", laid_strings_asciiSpace)], narrowed := true }
def ScriptRowsUptoSaid : Prop := scriptRowsUptoRow.holds Tryz.pinned (OpenSpec.upto scriptRowsSpec)

/-- 'althinglaw15.ScriptStops', WHERE WHAT IT READS IS OF BULK AT MOST 1048576: true; the input reads as it did. -/
def scriptStopsUptoRow : OpenClaim := { program := "ytockdfnnhkhlkaagreatdoor", sum := "9963ffba14c59d29412b553d84cab470ebcc15a4de0b45c070baac6e7611f638", func := "althing/althinglaw15.ScriptStops", spec := "scriptStops", inPlace := ["slices.overlaps[althing/grid.cell[althing/api.Referendum]]", "slices.overlaps[althing/api.Task]", "internal/bytealg.IndexByteString", "slices.overlaps[althing/grid.cell[*althing/voting.record]]", "slices.overlaps[althing/grid.cell[althing/api.Vote]]", "slices.overlaps[althing/grid.cell[int]]"], unfollowed := true, recurses := true, named := ["strings.asciiSpace", "unicode.White_Space"], plainKeys := false, apart := false, laid := [("unicode.White_Space", laid_unicode_White_Space), ("strings.asciiSpace", laid_strings_asciiSpace)], narrowed := true }
def ScriptStopsUptoSaid : Prop := scriptStopsUptoRow.holds Tryz.pinned (OpenSpec.upto scriptStopsSpec)

/-- 'althinglaw15.ScriptMakes', WHERE WHAT IT READS IS OF BULK AT MOST 1048576: true; the input reads as it did. -/
def scriptMakesUptoRow : OpenClaim := { program := "ytockdfnnhkhlkaagreatdoor", sum := "9963ffba14c59d29412b553d84cab470ebcc15a4de0b45c070baac6e7611f638", func := "althing/althinglaw15.ScriptMakes", spec := "scriptMakes", inPlace := ["slices.overlaps[althing/grid.cell[althing/api.Referendum]]", "slices.overlaps[althing/api.Task]", "internal/bytealg.IndexByteString", "slices.overlaps[althing/grid.cell[*althing/voting.record]]", "slices.overlaps[althing/grid.cell[althing/api.Vote]]", "slices.overlaps[althing/grid.cell[int]]"], unfollowed := true, recurses := true, named := ["strings.asciiSpace", "unicode.White_Space"], plainKeys := false, apart := false, laid := [("unicode.White_Space", laid_unicode_White_Space), ("strings.asciiSpace", laid_strings_asciiSpace)], narrowed := true }
def ScriptMakesUptoSaid : Prop := scriptMakesUptoRow.holds Tryz.pinned (OpenSpec.upto scriptMakesSpec)

/-- 'althinglaw15.ScriptBlocks', WHERE WHAT IT READS IS OF BULK AT MOST 1048576: true; the input reads as it did. -/
def scriptBlocksUptoRow : OpenClaim := { program := "ytockdfnnhkhlkaagreatdoor", sum := "9963ffba14c59d29412b553d84cab470ebcc15a4de0b45c070baac6e7611f638", func := "althing/althinglaw15.ScriptBlocks", spec := "scriptBlocks", inPlace := ["slices.overlaps[althing/grid.cell[althing/api.Referendum]]", "slices.overlaps[althing/api.Task]", "internal/bytealg.IndexByteString", "slices.overlaps[althing/grid.cell[*althing/voting.record]]", "slices.overlaps[althing/grid.cell[althing/api.Vote]]", "slices.overlaps[althing/grid.cell[int]]"], unfollowed := true, recurses := true, named := ["strings.asciiSpace", "unicode.White_Space"], plainKeys := false, apart := false, laid := [("unicode.White_Space", laid_unicode_White_Space), ("strings.asciiSpace", laid_strings_asciiSpace)], narrowed := true }
def ScriptBlocksUptoSaid : Prop := scriptBlocksUptoRow.holds Tryz.pinned (OpenSpec.upto scriptBlocksSpec)

end Rows
end Go.Proofs.YtockdfnnhkhlkaaGreatDoor
