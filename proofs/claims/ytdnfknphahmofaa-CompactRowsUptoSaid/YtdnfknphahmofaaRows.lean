/-
  No cell of these rows narrows 'for every input' (looked for: loops, veiled, ifaces, maps, wideKeys, modest, calm, conditions, laid).
  DERIVED. THE GIVEN ROWS OF THIS SEAT. 8 by the template 'for every input the law returns true; each argument reads behind the call as it read before'; 0 by the template 'total and deterministic' (their statements: YtdnfknphahmofaaTotals.lean).
  GIVEN WITH THE SEED: the statements are not yours to turn. If you find one false, say at which input.
  Laid BY PROGRAM, IN A SANDBOX (cutbox-rows.mjs): the forced cells as the released guide's own fill.sh prints them over the translation 010e174078b1a52f… (all of the seat's roots in one cut). By AI agents, Wed Nov 11 2026. No macro, syntax, notation, axiom, sorry.
-/
import Derived.Test.YtdnfknphahmofaaChecked
import GoSem.Claim
import GoSem.ClaimJoined
import GoSem.ClaimMapViews
import Derived.JoinedTies
import Derived.KernelRfl
namespace Go.Proofs.Ytdnfknphahmofaa
/- THE CELL 'sum', in the pinned program and in every row, IS THE sha256 OF THE DUMP (.gsa) THAT YtdnfknphahmofaaProg.lean LOADS. Nothing in Lean hashes anything: it is a label: what it is worth is what the hold of that sum in a sandbox is worth. -/
noncomputable def Try.pinned : Pinned := { name := "ytdnfknphahmofaa", sum := "010e174078b1a52fa7d4abbeb10982c20094bc38c2772990385598989e6d965a", checked := Try.checked }
namespace Rows
def none {H : Type} : Left H := { results := [], args := [] }

/-- 'althinglaw1.CompactSizes': WHATEVER THE INPUT: true; the input reads as it did. -/
def compactSizesSpec : ChangeSpec := { name := "compactSizes", fn := fun _ => fun
  | [d1, d2] => { results := [.lit (.bool true)], args := [d1, d2] }
  | _ => none }
def compactSizesRow : OpenClaim := { program := "ytdnfknphahmofaa", sum := "010e174078b1a52fa7d4abbeb10982c20094bc38c2772990385598989e6d965a", func := "althing/althinglaw1.CompactSizes", spec := "compactSizes", unfollowed := true, recurses := true, apart := false }
def CompactSizesSaid : Prop := compactSizesRow.holds Try.pinned (OpenSpec.ofChange compactSizesSpec)

/-- ITS FALSE NEIGHBOUR: 'it returns false'. Refute it at one input. -/
def compactSizesWrong : ChangeSpec := { name := "compactSizes", fn := fun _ => fun
  | [d1, d2] => { results := [.lit (.bool false)], args := [d1, d2] }
  | _ => none }
def CompactSizesWrongFalsely : Prop := compactSizesRow.holds Try.pinned (OpenSpec.ofChange compactSizesWrong)

/-- 'althinglaw1.CompactBack': WHATEVER THE INPUT: true; the input reads as it did. -/
def compactBackSpec : ChangeSpec := { name := "compactBack", fn := fun _ => fun
  | [d1, d2] => { results := [.lit (.bool true)], args := [d1, d2] }
  | _ => none }
def compactBackRow : OpenClaim := { program := "ytdnfknphahmofaa", sum := "010e174078b1a52fa7d4abbeb10982c20094bc38c2772990385598989e6d965a", func := "althing/althinglaw1.CompactBack", spec := "compactBack", unfollowed := true, recurses := true, apart := false }
def CompactBackSaid : Prop := compactBackRow.holds Try.pinned (OpenSpec.ofChange compactBackSpec)

/-- ITS FALSE NEIGHBOUR: 'it returns false'. Refute it at one input. -/
def compactBackWrong : ChangeSpec := { name := "compactBack", fn := fun _ => fun
  | [d1, d2] => { results := [.lit (.bool false)], args := [d1, d2] }
  | _ => none }
def CompactBackWrongFalsely : Prop := compactBackRow.holds Try.pinned (OpenSpec.ofChange compactBackWrong)

/-- 'althinglaw1.CompactShort': WHATEVER THE INPUT: true; the input reads as it did. -/
def compactShortSpec : ChangeSpec := { name := "compactShort", fn := fun _ => fun
  | [d1, d2] => { results := [.lit (.bool true)], args := [d1, d2] }
  | _ => none }
def compactShortRow : OpenClaim := { program := "ytdnfknphahmofaa", sum := "010e174078b1a52fa7d4abbeb10982c20094bc38c2772990385598989e6d965a", func := "althing/althinglaw1.CompactShort", spec := "compactShort", unfollowed := true, recurses := true, apart := false }
def CompactShortSaid : Prop := compactShortRow.holds Try.pinned (OpenSpec.ofChange compactShortSpec)

/-- ITS FALSE NEIGHBOUR: 'it returns false'. Refute it at one input. -/
def compactShortWrong : ChangeSpec := { name := "compactShort", fn := fun _ => fun
  | [d1, d2] => { results := [.lit (.bool false)], args := [d1, d2] }
  | _ => none }
def CompactShortWrongFalsely : Prop := compactShortRow.holds Try.pinned (OpenSpec.ofChange compactShortWrong)

/-- 'althinglaw1.CompactNums': WHATEVER THE INPUT: true; the input reads as it did. -/
def compactNumsSpec : ChangeSpec := { name := "compactNums", fn := fun _ => fun
  | [d1, d2] => { results := [.lit (.bool true)], args := [d1, d2] }
  | _ => none }
def compactNumsRow : OpenClaim := { program := "ytdnfknphahmofaa", sum := "010e174078b1a52fa7d4abbeb10982c20094bc38c2772990385598989e6d965a", func := "althing/althinglaw1.CompactNums", spec := "compactNums", unfollowed := true, recurses := true, apart := false }
def CompactNumsSaid : Prop := compactNumsRow.holds Try.pinned (OpenSpec.ofChange compactNumsSpec)

/-- ITS FALSE NEIGHBOUR: 'it returns false'. Refute it at one input. -/
def compactNumsWrong : ChangeSpec := { name := "compactNums", fn := fun _ => fun
  | [d1, d2] => { results := [.lit (.bool false)], args := [d1, d2] }
  | _ => none }
def CompactNumsWrongFalsely : Prop := compactNumsRow.holds Try.pinned (OpenSpec.ofChange compactNumsWrong)

/-- 'althinglaw1.CompactTells': WHATEVER THE INPUT: true; the input reads as it did. -/
def compactTellsSpec : ChangeSpec := { name := "compactTells", fn := fun _ => fun
  | [d1, d2, d3] => { results := [.lit (.bool true)], args := [d1, d2, d3] }
  | _ => none }
def compactTellsRow : OpenClaim := { program := "ytdnfknphahmofaa", sum := "010e174078b1a52fa7d4abbeb10982c20094bc38c2772990385598989e6d965a", func := "althing/althinglaw1.CompactTells", spec := "compactTells", unfollowed := true, recurses := true, apart := false }
def CompactTellsSaid : Prop := compactTellsRow.holds Try.pinned (OpenSpec.ofChange compactTellsSpec)

/-- ITS FALSE NEIGHBOUR: 'it returns false'. Refute it at one input. -/
def compactTellsWrong : ChangeSpec := { name := "compactTells", fn := fun _ => fun
  | [d1, d2, d3] => { results := [.lit (.bool false)], args := [d1, d2, d3] }
  | _ => none }
def CompactTellsWrongFalsely : Prop := compactTellsRow.holds Try.pinned (OpenSpec.ofChange compactTellsWrong)

/-- 'althinglaw1.CompactOwn': WHATEVER THE INPUT: true; the input reads as it did. -/
def compactOwnSpec : ChangeSpec := { name := "compactOwn", fn := fun _ => fun
  | [d1, d2, d3] => { results := [.lit (.bool true)], args := [d1, d2, d3] }
  | _ => none }
def compactOwnRow : OpenClaim := { program := "ytdnfknphahmofaa", sum := "010e174078b1a52fa7d4abbeb10982c20094bc38c2772990385598989e6d965a", func := "althing/althinglaw1.CompactOwn", spec := "compactOwn", unfollowed := true, recurses := true, apart := false }
def CompactOwnSaid : Prop := compactOwnRow.holds Try.pinned (OpenSpec.ofChange compactOwnSpec)

/-- ITS FALSE NEIGHBOUR: 'it returns false'. Refute it at one input. -/
def compactOwnWrong : ChangeSpec := { name := "compactOwn", fn := fun _ => fun
  | [d1, d2, d3] => { results := [.lit (.bool false)], args := [d1, d2, d3] }
  | _ => none }
def CompactOwnWrongFalsely : Prop := compactOwnRow.holds Try.pinned (OpenSpec.ofChange compactOwnWrong)

/-- 'althinglaw1.CompactStops': WHATEVER THE INPUT: true; the input reads as it did. -/
def compactStopsSpec : ChangeSpec := { name := "compactStops", fn := fun _ => fun
  | [d1, d2] => { results := [.lit (.bool true)], args := [d1, d2] }
  | _ => none }
def compactStopsRow : OpenClaim := { program := "ytdnfknphahmofaa", sum := "010e174078b1a52fa7d4abbeb10982c20094bc38c2772990385598989e6d965a", func := "althing/althinglaw1.CompactStops", spec := "compactStops", unfollowed := true, recurses := true, apart := false }
def CompactStopsSaid : Prop := compactStopsRow.holds Try.pinned (OpenSpec.ofChange compactStopsSpec)

/-- ITS FALSE NEIGHBOUR: 'it returns false'. Refute it at one input. -/
def compactStopsWrong : ChangeSpec := { name := "compactStops", fn := fun _ => fun
  | [d1, d2] => { results := [.lit (.bool false)], args := [d1, d2] }
  | _ => none }
def CompactStopsWrongFalsely : Prop := compactStopsRow.holds Try.pinned (OpenSpec.ofChange compactStopsWrong)

/-- 'althinglaw1.CompactRows': WHATEVER THE INPUT: true; the input reads as it did. -/
def compactRowsSpec : ChangeSpec := { name := "compactRows", fn := fun _ => fun
  | [d1, d2] => { results := [.lit (.bool true)], args := [d1, d2] }
  | _ => none }
def compactRowsRow : OpenClaim := { program := "ytdnfknphahmofaa", sum := "010e174078b1a52fa7d4abbeb10982c20094bc38c2772990385598989e6d965a", func := "althing/althinglaw1.CompactRows", spec := "compactRows", unfollowed := true, recurses := true, apart := false }
def CompactRowsSaid : Prop := compactRowsRow.holds Try.pinned (OpenSpec.ofChange compactRowsSpec)

/-- ITS FALSE NEIGHBOUR: 'it returns false'. Refute it at one input. -/
def compactRowsWrong : ChangeSpec := { name := "compactRows", fn := fun _ => fun
  | [d1, d2] => { results := [.lit (.bool false)], args := [d1, d2] }
  | _ => none }
def CompactRowsWrongFalsely : Prop := compactRowsRow.holds Try.pinned (OpenSpec.ofChange compactRowsWrong)

/- THE SECOND FORM. 'bulk': how many values and letters a reading holds, each counted each time it is reached (what is shared counts as often as it is met; a slice's spare places count too). A statement '..UptoSaid' is the law's where the arguments, and the package variables that the reading takes, are together of bulk at most 1048576: NARROWER than '..Said'. Prove '..Said' where nothing that the law and all that it calls make is longer than what came in: it says more and counts as full. Else prove '..UptoSaid'. A law counts once. -/
mutual
def uptoBulk {H : Type} : DataW H → Nat
  | .lit (.string bytes) => bytes.length + 1
  | .lit _ => 1
  | .nil => 1
  | .ptr d => uptoBulk d + 1
  | .slice elems spare => uptoBulkAll elems + uptoBulkAll spare + 1
  | .agg parts => uptoBulkAll parts + 1
  | .iface _ d => uptoBulk d + 1
  | .map entries => uptoBulkEntries entries + 1
  | .held _ => 1
def uptoBulkAll {H : Type} : List (DataW H) → Nat
  | [] => 0
  | d :: r => uptoBulk d + uptoBulkAll r
def uptoBulkEntries {H : Type} : List (Lit × DataW H) → Nat
  | [] => 0
  | x :: r => uptoBulkEntry x + uptoBulkEntries r
def uptoBulkEntry {H : Type} : Lit × DataW H → Nat
  | (.string bytes, d) => bytes.length + uptoBulk d + 1
  | (_, d) => uptoBulk d + 1
 end
def uptoSmall : (H : Type) → List (DataW H) → Bool := fun _ ds => decide (uptoBulkAll ds ≤ 1048576)
def OpenSpec.upto (s : _root_.Go.ChangeSpec) : _root_.Go.OpenSpec := { _root_.Go.OpenSpec.ofChange s with cond := some uptoSmall }

/-- 'althinglaw1.CompactSizes', WHERE WHAT IT READS IS OF BULK AT MOST 1048576: true; the input reads as it did. -/
def compactSizesUptoRow : OpenClaim := { program := "ytdnfknphahmofaa", sum := "010e174078b1a52fa7d4abbeb10982c20094bc38c2772990385598989e6d965a", func := "althing/althinglaw1.CompactSizes", spec := "compactSizes", unfollowed := true, recurses := true, apart := false, narrowed := true }
def CompactSizesUptoSaid : Prop := compactSizesUptoRow.holds Try.pinned (OpenSpec.upto compactSizesSpec)

/-- 'althinglaw1.CompactBack', WHERE WHAT IT READS IS OF BULK AT MOST 1048576: true; the input reads as it did. -/
def compactBackUptoRow : OpenClaim := { program := "ytdnfknphahmofaa", sum := "010e174078b1a52fa7d4abbeb10982c20094bc38c2772990385598989e6d965a", func := "althing/althinglaw1.CompactBack", spec := "compactBack", unfollowed := true, recurses := true, apart := false, narrowed := true }
def CompactBackUptoSaid : Prop := compactBackUptoRow.holds Try.pinned (OpenSpec.upto compactBackSpec)

/-- 'althinglaw1.CompactShort', WHERE WHAT IT READS IS OF BULK AT MOST 1048576: true; the input reads as it did. -/
def compactShortUptoRow : OpenClaim := { program := "ytdnfknphahmofaa", sum := "010e174078b1a52fa7d4abbeb10982c20094bc38c2772990385598989e6d965a", func := "althing/althinglaw1.CompactShort", spec := "compactShort", unfollowed := true, recurses := true, apart := false, narrowed := true }
def CompactShortUptoSaid : Prop := compactShortUptoRow.holds Try.pinned (OpenSpec.upto compactShortSpec)

/-- 'althinglaw1.CompactNums', WHERE WHAT IT READS IS OF BULK AT MOST 1048576: true; the input reads as it did. -/
def compactNumsUptoRow : OpenClaim := { program := "ytdnfknphahmofaa", sum := "010e174078b1a52fa7d4abbeb10982c20094bc38c2772990385598989e6d965a", func := "althing/althinglaw1.CompactNums", spec := "compactNums", unfollowed := true, recurses := true, apart := false, narrowed := true }
def CompactNumsUptoSaid : Prop := compactNumsUptoRow.holds Try.pinned (OpenSpec.upto compactNumsSpec)

/-- 'althinglaw1.CompactTells', WHERE WHAT IT READS IS OF BULK AT MOST 1048576: true; the input reads as it did. -/
def compactTellsUptoRow : OpenClaim := { program := "ytdnfknphahmofaa", sum := "010e174078b1a52fa7d4abbeb10982c20094bc38c2772990385598989e6d965a", func := "althing/althinglaw1.CompactTells", spec := "compactTells", unfollowed := true, recurses := true, apart := false, narrowed := true }
def CompactTellsUptoSaid : Prop := compactTellsUptoRow.holds Try.pinned (OpenSpec.upto compactTellsSpec)

/-- 'althinglaw1.CompactOwn', WHERE WHAT IT READS IS OF BULK AT MOST 1048576: true; the input reads as it did. -/
def compactOwnUptoRow : OpenClaim := { program := "ytdnfknphahmofaa", sum := "010e174078b1a52fa7d4abbeb10982c20094bc38c2772990385598989e6d965a", func := "althing/althinglaw1.CompactOwn", spec := "compactOwn", unfollowed := true, recurses := true, apart := false, narrowed := true }
def CompactOwnUptoSaid : Prop := compactOwnUptoRow.holds Try.pinned (OpenSpec.upto compactOwnSpec)

/-- 'althinglaw1.CompactStops', WHERE WHAT IT READS IS OF BULK AT MOST 1048576: true; the input reads as it did. -/
def compactStopsUptoRow : OpenClaim := { program := "ytdnfknphahmofaa", sum := "010e174078b1a52fa7d4abbeb10982c20094bc38c2772990385598989e6d965a", func := "althing/althinglaw1.CompactStops", spec := "compactStops", unfollowed := true, recurses := true, apart := false, narrowed := true }
def CompactStopsUptoSaid : Prop := compactStopsUptoRow.holds Try.pinned (OpenSpec.upto compactStopsSpec)

/-- 'althinglaw1.CompactRows', WHERE WHAT IT READS IS OF BULK AT MOST 1048576: true; the input reads as it did. -/
def compactRowsUptoRow : OpenClaim := { program := "ytdnfknphahmofaa", sum := "010e174078b1a52fa7d4abbeb10982c20094bc38c2772990385598989e6d965a", func := "althing/althinglaw1.CompactRows", spec := "compactRows", unfollowed := true, recurses := true, apart := false, narrowed := true }
def CompactRowsUptoSaid : Prop := compactRowsUptoRow.holds Try.pinned (OpenSpec.upto compactRowsSpec)

end Rows
end Go.Proofs.Ytdnfknphahmofaa
