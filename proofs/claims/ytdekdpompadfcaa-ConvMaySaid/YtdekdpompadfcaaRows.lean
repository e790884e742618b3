/-
  No cell of these rows narrows 'for every input' (looked for: loops, veiled, ifaces, maps, wideKeys, modest, calm, conditions, laid).
  DERIVED. THE GIVEN ROWS OF THIS SEAT. 8 by the template 'for every input the law returns true; each argument reads behind the call as it read before'; 0 by the template 'total and deterministic' (their statements: YtdekdpompadfcaaTotals.lean).
  GIVEN WITH THE SEED: the statements are not yours to turn. If you find one false, say at which input.
  Laid BY PROGRAM, IN A SANDBOX (cutbox-rows.mjs): the forced cells as the released guide's own fill.sh prints them over the translation 07bcc0f726b0b573… (all of the seat's roots in one cut). By AI agents, Wed Nov 11 2026. No macro, syntax, notation, axiom, sorry.
-/
import Derived.Test.YtdekdpompadfcaaChecked
import GoSem.Claim
import GoSem.ClaimJoined
import GoSem.ClaimMapViews
import Derived.JoinedTies
import Derived.KernelRfl
namespace Go.Proofs.Ytdekdpompadfcaa
/- THE CELL 'sum', in the pinned program and in every row, IS THE sha256 OF THE DUMP (.gsa) THAT YtdekdpompadfcaaProg.lean LOADS. Nothing in Lean hashes anything: it is a label: what it is worth is what the hold of that sum in a sandbox is worth. -/
noncomputable def Try.pinned : Pinned := { name := "ytdekdpompadfcaa", sum := "07bcc0f726b0b57319afa3f72abe1c9b2b178e5bea5f4aea7503f7e9b6f5a6db", checked := Try.checked }
namespace Rows
def none {H : Type} : Left H := { results := [], args := [] }

/-- 'althinglaw5.ConvTells': WHATEVER THE INPUT: true; the input reads as it did. -/
def convTellsSpec : ChangeSpec := { name := "convTells", fn := fun _ => fun
  | [d1, d2, d3] => { results := [.lit (.bool true)], args := [d1, d2, d3] }
  | _ => none }
def convTellsRow : OpenClaim := { program := "ytdekdpompadfcaa", sum := "07bcc0f726b0b57319afa3f72abe1c9b2b178e5bea5f4aea7503f7e9b6f5a6db", func := "althing/althinglaw5.ConvTells", spec := "convTells", apart := false }
def ConvTellsSaid : Prop := convTellsRow.holds Try.pinned (OpenSpec.ofChange convTellsSpec)

/-- ITS FALSE NEIGHBOUR: 'it returns false'. Refute it at one input. -/
def convTellsWrong : ChangeSpec := { name := "convTells", fn := fun _ => fun
  | [d1, d2, d3] => { results := [.lit (.bool false)], args := [d1, d2, d3] }
  | _ => none }
def ConvTellsWrongFalsely : Prop := convTellsRow.holds Try.pinned (OpenSpec.ofChange convTellsWrong)

/-- 'althinglaw5.ConvMore': WHATEVER THE INPUT: true; the input reads as it did. -/
def convMoreSpec : ChangeSpec := { name := "convMore", fn := fun _ => fun
  | [d1, d2, d3] => { results := [.lit (.bool true)], args := [d1, d2, d3] }
  | _ => none }
def convMoreRow : OpenClaim := { program := "ytdekdpompadfcaa", sum := "07bcc0f726b0b57319afa3f72abe1c9b2b178e5bea5f4aea7503f7e9b6f5a6db", func := "althing/althinglaw5.ConvMore", spec := "convMore", apart := false }
def ConvMoreSaid : Prop := convMoreRow.holds Try.pinned (OpenSpec.ofChange convMoreSpec)

/-- ITS FALSE NEIGHBOUR: 'it returns false'. Refute it at one input. -/
def convMoreWrong : ChangeSpec := { name := "convMore", fn := fun _ => fun
  | [d1, d2, d3] => { results := [.lit (.bool false)], args := [d1, d2, d3] }
  | _ => none }
def ConvMoreWrongFalsely : Prop := convMoreRow.holds Try.pinned (OpenSpec.ofChange convMoreWrong)

/-- 'althinglaw5.ConvSums': WHATEVER THE INPUT: true; the input reads as it did. -/
def convSumsSpec : ChangeSpec := { name := "convSums", fn := fun _ => fun
  | [d1, d2, d3] => { results := [.lit (.bool true)], args := [d1, d2, d3] }
  | _ => none }
def convSumsRow : OpenClaim := { program := "ytdekdpompadfcaa", sum := "07bcc0f726b0b57319afa3f72abe1c9b2b178e5bea5f4aea7503f7e9b6f5a6db", func := "althing/althinglaw5.ConvSums", spec := "convSums", apart := false }
def ConvSumsSaid : Prop := convSumsRow.holds Try.pinned (OpenSpec.ofChange convSumsSpec)

/-- ITS FALSE NEIGHBOUR: 'it returns false'. Refute it at one input. -/
def convSumsWrong : ChangeSpec := { name := "convSums", fn := fun _ => fun
  | [d1, d2, d3] => { results := [.lit (.bool false)], args := [d1, d2, d3] }
  | _ => none }
def ConvSumsWrongFalsely : Prop := convSumsRow.holds Try.pinned (OpenSpec.ofChange convSumsWrong)

/-- 'althinglaw5.ConvStands': WHATEVER THE INPUT: true; the input reads as it did. -/
def convStandsSpec : ChangeSpec := { name := "convStands", fn := fun _ => fun
  | [d1, d2, d3, d4] => { results := [.lit (.bool true)], args := [d1, d2, d3, d4] }
  | _ => none }
def convStandsRow : OpenClaim := { program := "ytdekdpompadfcaa", sum := "07bcc0f726b0b57319afa3f72abe1c9b2b178e5bea5f4aea7503f7e9b6f5a6db", func := "althing/althinglaw5.ConvStands", spec := "convStands", apart := false }
def ConvStandsSaid : Prop := convStandsRow.holds Try.pinned (OpenSpec.ofChange convStandsSpec)

/-- ITS FALSE NEIGHBOUR: 'it returns false'. Refute it at one input. -/
def convStandsWrong : ChangeSpec := { name := "convStands", fn := fun _ => fun
  | [d1, d2, d3, d4] => { results := [.lit (.bool false)], args := [d1, d2, d3, d4] }
  | _ => none }
def ConvStandsWrongFalsely : Prop := convStandsRow.holds Try.pinned (OpenSpec.ofChange convStandsWrong)

/-- 'althinglaw5.ConvBack': WHATEVER THE INPUT: true; the input reads as it did. -/
def convBackSpec : ChangeSpec := { name := "convBack", fn := fun _ => fun
  | [d1, d2] => { results := [.lit (.bool true)], args := [d1, d2] }
  | _ => none }
def convBackRow : OpenClaim := { program := "ytdekdpompadfcaa", sum := "07bcc0f726b0b57319afa3f72abe1c9b2b178e5bea5f4aea7503f7e9b6f5a6db", func := "althing/althinglaw5.ConvBack", spec := "convBack", apart := false }
def ConvBackSaid : Prop := convBackRow.holds Try.pinned (OpenSpec.ofChange convBackSpec)

/-- ITS FALSE NEIGHBOUR: 'it returns false'. Refute it at one input. -/
def convBackWrong : ChangeSpec := { name := "convBack", fn := fun _ => fun
  | [d1, d2] => { results := [.lit (.bool false)], args := [d1, d2] }
  | _ => none }
def ConvBackWrongFalsely : Prop := convBackRow.holds Try.pinned (OpenSpec.ofChange convBackWrong)

/-- 'althinglaw5.ConvSplits': WHATEVER THE INPUT: true; the input reads as it did. -/
def convSplitsSpec : ChangeSpec := { name := "convSplits", fn := fun _ => fun
  | [d1, d2, d3, d4] => { results := [.lit (.bool true)], args := [d1, d2, d3, d4] }
  | _ => none }
def convSplitsRow : OpenClaim := { program := "ytdekdpompadfcaa", sum := "07bcc0f726b0b57319afa3f72abe1c9b2b178e5bea5f4aea7503f7e9b6f5a6db", func := "althing/althinglaw5.ConvSplits", spec := "convSplits", apart := false }
def ConvSplitsSaid : Prop := convSplitsRow.holds Try.pinned (OpenSpec.ofChange convSplitsSpec)

/-- ITS FALSE NEIGHBOUR: 'it returns false'. Refute it at one input. -/
def convSplitsWrong : ChangeSpec := { name := "convSplits", fn := fun _ => fun
  | [d1, d2, d3, d4] => { results := [.lit (.bool false)], args := [d1, d2, d3, d4] }
  | _ => none }
def ConvSplitsWrongFalsely : Prop := convSplitsRow.holds Try.pinned (OpenSpec.ofChange convSplitsWrong)

/-- 'althinglaw5.ConvKinds': WHATEVER THE INPUT: true; the input reads as it did. -/
def convKindsSpec : ChangeSpec := { name := "convKinds", fn := fun _ => fun
  | [d1, d2, d3, d4, d5, d6] => { results := [.lit (.bool true)], args := [d1, d2, d3, d4, d5, d6] }
  | _ => none }
def convKindsRow : OpenClaim := { program := "ytdekdpompadfcaa", sum := "07bcc0f726b0b57319afa3f72abe1c9b2b178e5bea5f4aea7503f7e9b6f5a6db", func := "althing/althinglaw5.ConvKinds", spec := "convKinds", apart := false }
def ConvKindsSaid : Prop := convKindsRow.holds Try.pinned (OpenSpec.ofChange convKindsSpec)

/-- ITS FALSE NEIGHBOUR: 'it returns false'. Refute it at one input. -/
def convKindsWrong : ChangeSpec := { name := "convKinds", fn := fun _ => fun
  | [d1, d2, d3, d4, d5, d6] => { results := [.lit (.bool false)], args := [d1, d2, d3, d4, d5, d6] }
  | _ => none }
def ConvKindsWrongFalsely : Prop := convKindsRow.holds Try.pinned (OpenSpec.ofChange convKindsWrong)

/-- 'althinglaw5.ConvMay': WHATEVER THE INPUT: true; the input reads as it did. -/
def convMaySpec : ChangeSpec := { name := "convMay", fn := fun _ => fun
  | [d1, d2] => { results := [.lit (.bool true)], args := [d1, d2] }
  | _ => none }
def convMayRow : OpenClaim := { program := "ytdekdpompadfcaa", sum := "07bcc0f726b0b57319afa3f72abe1c9b2b178e5bea5f4aea7503f7e9b6f5a6db", func := "althing/althinglaw5.ConvMay", spec := "convMay", apart := false }
def ConvMaySaid : Prop := convMayRow.holds Try.pinned (OpenSpec.ofChange convMaySpec)

/-- ITS FALSE NEIGHBOUR: 'it returns false'. Refute it at one input. -/
def convMayWrong : ChangeSpec := { name := "convMay", fn := fun _ => fun
  | [d1, d2] => { results := [.lit (.bool false)], args := [d1, d2] }
  | _ => none }
def ConvMayWrongFalsely : Prop := convMayRow.holds Try.pinned (OpenSpec.ofChange convMayWrong)

/- THE SECOND FORM. 'bulk': how many values and letters a reading holds, each counted each time it is reached (what is shared counts as often as it is met; a slice's spare places count too). A statement '..UptoSaid' is the law's where the arguments, and the package variables that the reading takes, are together of bulk at most 1048576: NARROWER than '..Said'. Prove '..Said' where nothing that the law and all that it calls make is longer than what came in: it says more and counts as full. Else prove '..UptoSaid'. A law counts once. -/
mutual
def uptoBulk {H : Type} : DataW H → Nat
  | .lit (.string bytes) => bytes.length + 1
  | .lit _ => 1
  | .nil => 1
  | .ptr d => uptoBulk d + 1
  | .slice elems spare => uptoBulkAll elems + uptoBulkAll spare + 1
  | .agg parts => uptoBulkAll parts + 1
  | .iface _ d => uptoBulk d + 1
  | .map entries => uptoBulkEntries entries + 1
  | .held _ => 1
def uptoBulkAll {H : Type} : List (DataW H) → Nat
  | [] => 0
  | d :: r => uptoBulk d + uptoBulkAll r
def uptoBulkEntries {H : Type} : List (Lit × DataW H) → Nat
  | [] => 0
  | x :: r => uptoBulkEntry x + uptoBulkEntries r
def uptoBulkEntry {H : Type} : Lit × DataW H → Nat
  | (.string bytes, d) => bytes.length + uptoBulk d + 1
  | (_, d) => uptoBulk d + 1
 end
def uptoSmall : (H : Type) → List (DataW H) → Bool := fun _ ds => decide (uptoBulkAll ds ≤ 1048576)
def OpenSpec.upto (s : _root_.Go.ChangeSpec) : _root_.Go.OpenSpec := { _root_.Go.OpenSpec.ofChange s with cond := some uptoSmall }

/-- 'althinglaw5.ConvTells', WHERE WHAT IT READS IS OF BULK AT MOST 1048576: true; the input reads as it did. -/
def convTellsUptoRow : OpenClaim := { program := "ytdekdpompadfcaa", sum := "07bcc0f726b0b57319afa3f72abe1c9b2b178e5bea5f4aea7503f7e9b6f5a6db", func := "althing/althinglaw5.ConvTells", spec := "convTells", apart := false, narrowed := true }
def ConvTellsUptoSaid : Prop := convTellsUptoRow.holds Try.pinned (OpenSpec.upto convTellsSpec)

/-- 'althinglaw5.ConvMore', WHERE WHAT IT READS IS OF BULK AT MOST 1048576: true; the input reads as it did. -/
def convMoreUptoRow : OpenClaim := { program := "ytdekdpompadfcaa", sum := "07bcc0f726b0b57319afa3f72abe1c9b2b178e5bea5f4aea7503f7e9b6f5a6db", func := "althing/althinglaw5.ConvMore", spec := "convMore", apart := false, narrowed := true }
def ConvMoreUptoSaid : Prop := convMoreUptoRow.holds Try.pinned (OpenSpec.upto convMoreSpec)

/-- 'althinglaw5.ConvSums', WHERE WHAT IT READS IS OF BULK AT MOST 1048576: true; the input reads as it did. -/
def convSumsUptoRow : OpenClaim := { program := "ytdekdpompadfcaa", sum := "07bcc0f726b0b57319afa3f72abe1c9b2b178e5bea5f4aea7503f7e9b6f5a6db", func := "althing/althinglaw5.ConvSums", spec := "convSums", apart := false, narrowed := true }
def ConvSumsUptoSaid : Prop := convSumsUptoRow.holds Try.pinned (OpenSpec.upto convSumsSpec)

/-- 'althinglaw5.ConvStands', WHERE WHAT IT READS IS OF BULK AT MOST 1048576: true; the input reads as it did. -/
def convStandsUptoRow : OpenClaim := { program := "ytdekdpompadfcaa", sum := "07bcc0f726b0b57319afa3f72abe1c9b2b178e5bea5f4aea7503f7e9b6f5a6db", func := "althing/althinglaw5.ConvStands", spec := "convStands", apart := false, narrowed := true }
def ConvStandsUptoSaid : Prop := convStandsUptoRow.holds Try.pinned (OpenSpec.upto convStandsSpec)

/-- 'althinglaw5.ConvBack', WHERE WHAT IT READS IS OF BULK AT MOST 1048576: true; the input reads as it did. -/
def convBackUptoRow : OpenClaim := { program := "ytdekdpompadfcaa", sum := "07bcc0f726b0b57319afa3f72abe1c9b2b178e5bea5f4aea7503f7e9b6f5a6db", func := "althing/althinglaw5.ConvBack", spec := "convBack", apart := false, narrowed := true }
def ConvBackUptoSaid : Prop := convBackUptoRow.holds Try.pinned (OpenSpec.upto convBackSpec)

/-- 'althinglaw5.ConvSplits', WHERE WHAT IT READS IS OF BULK AT MOST 1048576: true; the input reads as it did. -/
def convSplitsUptoRow : OpenClaim := { program := "ytdekdpompadfcaa", sum := "07bcc0f726b0b57319afa3f72abe1c9b2b178e5bea5f4aea7503f7e9b6f5a6db", func := "althing/althinglaw5.ConvSplits", spec := "convSplits", apart := false, narrowed := true }
def ConvSplitsUptoSaid : Prop := convSplitsUptoRow.holds Try.pinned (OpenSpec.upto convSplitsSpec)

/-- 'althinglaw5.ConvKinds', WHERE WHAT IT READS IS OF BULK AT MOST 1048576: true; the input reads as it did. -/
def convKindsUptoRow : OpenClaim := { program := "ytdekdpompadfcaa", sum := "07bcc0f726b0b57319afa3f72abe1c9b2b178e5bea5f4aea7503f7e9b6f5a6db", func := "althing/althinglaw5.ConvKinds", spec := "convKinds", apart := false, narrowed := true }
def ConvKindsUptoSaid : Prop := convKindsUptoRow.holds Try.pinned (OpenSpec.upto convKindsSpec)

/-- 'althinglaw5.ConvMay', WHERE WHAT IT READS IS OF BULK AT MOST 1048576: true; the input reads as it did. -/
def convMayUptoRow : OpenClaim := { program := "ytdekdpompadfcaa", sum := "07bcc0f726b0b57319afa3f72abe1c9b2b178e5bea5f4aea7503f7e9b6f5a6db", func := "althing/althinglaw5.ConvMay", spec := "convMay", apart := false, narrowed := true }
def ConvMayUptoSaid : Prop := convMayUptoRow.holds Try.pinned (OpenSpec.upto convMaySpec)

end Rows
end Go.Proofs.Ytdekdpompadfcaa
