/-
  No cell of these rows narrows 'for every input' (looked for: loops, veiled, ifaces, maps, wideKeys, modest, calm, conditions, laid).
  DERIVED. THE GIVEN ROWS OF THIS SEAT. 12 by the template 'for every input the law returns true; each argument reads behind the call as it read before'; 0 by the template 'total and deterministic' (their statements: YtlodhcmbonljgaaTotals.lean).
  GIVEN WITH THE SEED: the statements are not yours to turn. If you find one false, say at which input.
  Laid BY PROGRAM, IN A SANDBOX (cutbox-rows.mjs): the forced cells as the released guide's own fill.sh prints them over the translation e15cf156c8470bea… (all of the seat's roots in one cut). By AI agents, Wed Nov 11 2026. No macro, syntax, notation, axiom, sorry.
-/
import Derived.Test.YtlodhcmbonljgaaChecked
import GoSem.Claim
import GoSem.ClaimJoined
import GoSem.ClaimMapViews
import Derived.JoinedTies
import Derived.KernelRfl
namespace Go.Proofs.Ytlodhcmbonljgaa
/- THE CELL 'sum', in the pinned program and in every row, IS THE sha256 OF THE DUMP (.gsa) THAT YtlodhcmbonljgaaProg.lean LOADS. Nothing in Lean hashes anything: it is a label: what it is worth is what the hold of that sum in a sandbox is worth. -/
noncomputable def Try.pinned : Pinned := { name := "ytlodhcmbonljgaa", sum := "e15cf156c8470bea460c2802f6a114e1bc3b072216f5c3965525bf64b1a82d1b", checked := Try.checked }
namespace Rows
def none {H : Type} : Left H := { results := [], args := [] }

/-- 'laws.FnExactTakeNumber': WHATEVER THE INPUT: true; the input reads as it did. -/
def fnExactTakeNumberSpec : ChangeSpec := { name := "fnExactTakeNumber", fn := fun _ => fun
  | [d] => { results := [.lit (.bool true)], args := [d] }
  | _ => none }
def fnExactTakeNumberRow : OpenClaim := { program := "ytlodhcmbonljgaa", sum := "e15cf156c8470bea460c2802f6a114e1bc3b072216f5c3965525bf64b1a82d1b", func := "loop.example/g00141/laws.FnExactTakeNumber", spec := "fnExactTakeNumber", apart := false }
def FnExactTakeNumberSaid : Prop := fnExactTakeNumberRow.holds Try.pinned (OpenSpec.ofChange fnExactTakeNumberSpec)

/-- ITS FALSE NEIGHBOUR: 'it returns false'. Refute it at one input. -/
def fnExactTakeNumberWrong : ChangeSpec := { name := "fnExactTakeNumber", fn := fun _ => fun
  | [d] => { results := [.lit (.bool false)], args := [d] }
  | _ => none }
def FnExactTakeNumberWrongFalsely : Prop := fnExactTakeNumberRow.holds Try.pinned (OpenSpec.ofChange fnExactTakeNumberWrong)

/-- 'laws.FnExactTakeText': WHATEVER THE INPUT: true; the input reads as it did. -/
def fnExactTakeTextSpec : ChangeSpec := { name := "fnExactTakeText", fn := fun _ => fun
  | [d] => { results := [.lit (.bool true)], args := [d] }
  | _ => none }
def fnExactTakeTextRow : OpenClaim := { program := "ytlodhcmbonljgaa", sum := "e15cf156c8470bea460c2802f6a114e1bc3b072216f5c3965525bf64b1a82d1b", func := "loop.example/g00141/laws.FnExactTakeText", spec := "fnExactTakeText", apart := false }
def FnExactTakeTextSaid : Prop := fnExactTakeTextRow.holds Try.pinned (OpenSpec.ofChange fnExactTakeTextSpec)

/-- ITS FALSE NEIGHBOUR: 'it returns false'. Refute it at one input. -/
def fnExactTakeTextWrong : ChangeSpec := { name := "fnExactTakeText", fn := fun _ => fun
  | [d] => { results := [.lit (.bool false)], args := [d] }
  | _ => none }
def FnExactTakeTextWrongFalsely : Prop := fnExactTakeTextRow.holds Try.pinned (OpenSpec.ofChange fnExactTakeTextWrong)

/-- 'laws.FnRotated': WHATEVER THE INPUT: true; the input reads as it did. -/
def fnRotatedSpec : ChangeSpec := { name := "fnRotated", fn := fun _ => fun
  | [d] => { results := [.lit (.bool true)], args := [d] }
  | _ => none }
def fnRotatedRow : OpenClaim := { program := "ytlodhcmbonljgaa", sum := "e15cf156c8470bea460c2802f6a114e1bc3b072216f5c3965525bf64b1a82d1b", func := "loop.example/g00141/laws.FnRotated", spec := "fnRotated", apart := false }
def FnRotatedSaid : Prop := fnRotatedRow.holds Try.pinned (OpenSpec.ofChange fnRotatedSpec)

/-- ITS FALSE NEIGHBOUR: 'it returns false'. Refute it at one input. -/
def fnRotatedWrong : ChangeSpec := { name := "fnRotated", fn := fun _ => fun
  | [d] => { results := [.lit (.bool false)], args := [d] }
  | _ => none }
def FnRotatedWrongFalsely : Prop := fnRotatedRow.holds Try.pinned (OpenSpec.ofChange fnRotatedWrong)

/-- 'laws.FnExactWriteFrame': WHATEVER THE INPUT: true; the input reads as it did. -/
def fnExactWriteFrameSpec : ChangeSpec := { name := "fnExactWriteFrame", fn := fun _ => fun
  | [d] => { results := [.lit (.bool true)], args := [d] }
  | _ => none }
def fnExactWriteFrameRow : OpenClaim := { program := "ytlodhcmbonljgaa", sum := "e15cf156c8470bea460c2802f6a114e1bc3b072216f5c3965525bf64b1a82d1b", func := "loop.example/g00141/laws.FnExactWriteFrame", spec := "fnExactWriteFrame", named := ["encoding/binary.LittleEndian"], apart := false }
def FnExactWriteFrameSaid : Prop := fnExactWriteFrameRow.holds Try.pinned (OpenSpec.ofChange fnExactWriteFrameSpec)

/-- ITS FALSE NEIGHBOUR: 'it returns false'. Refute it at one input. -/
def fnExactWriteFrameWrong : ChangeSpec := { name := "fnExactWriteFrame", fn := fun _ => fun
  | [d] => { results := [.lit (.bool false)], args := [d] }
  | _ => none }
def FnExactWriteFrameWrongFalsely : Prop := fnExactWriteFrameRow.holds Try.pinned (OpenSpec.ofChange fnExactWriteFrameWrong)

/-- 'laws.FnExactNetOk': WHATEVER THE INPUT: true; the input reads as it did. -/
def fnExactNetOkSpec : ChangeSpec := { name := "fnExactNetOk", fn := fun _ => fun
  | [d] => { results := [.lit (.bool true)], args := [d] }
  | _ => none }
def fnExactNetOkRow : OpenClaim := { program := "ytlodhcmbonljgaa", sum := "e15cf156c8470bea460c2802f6a114e1bc3b072216f5c3965525bf64b1a82d1b", func := "loop.example/g00141/laws.FnExactNetOk", spec := "fnExactNetOk", apart := false }
def FnExactNetOkSaid : Prop := fnExactNetOkRow.holds Try.pinned (OpenSpec.ofChange fnExactNetOkSpec)

/-- ITS FALSE NEIGHBOUR: 'it returns false'. Refute it at one input. -/
def fnExactNetOkWrong : ChangeSpec := { name := "fnExactNetOk", fn := fun _ => fun
  | [d] => { results := [.lit (.bool false)], args := [d] }
  | _ => none }
def FnExactNetOkWrongFalsely : Prop := fnExactNetOkRow.holds Try.pinned (OpenSpec.ofChange fnExactNetOkWrong)

/-- 'laws.FnExactEntryText': WHATEVER THE INPUT: true; the input reads as it did. -/
def fnExactEntryTextSpec : ChangeSpec := { name := "fnExactEntryText", fn := fun _ => fun
  | [d] => { results := [.lit (.bool true)], args := [d] }
  | _ => none }
def fnExactEntryTextRow : OpenClaim := { program := "ytlodhcmbonljgaa", sum := "e15cf156c8470bea460c2802f6a114e1bc3b072216f5c3965525bf64b1a82d1b", func := "loop.example/g00141/laws.FnExactEntryText", spec := "fnExactEntryText", named := ["encoding/binary.LittleEndian"], apart := false }
def FnExactEntryTextSaid : Prop := fnExactEntryTextRow.holds Try.pinned (OpenSpec.ofChange fnExactEntryTextSpec)

/-- ITS FALSE NEIGHBOUR: 'it returns false'. Refute it at one input. -/
def fnExactEntryTextWrong : ChangeSpec := { name := "fnExactEntryText", fn := fun _ => fun
  | [d] => { results := [.lit (.bool false)], args := [d] }
  | _ => none }
def FnExactEntryTextWrongFalsely : Prop := fnExactEntryTextRow.holds Try.pinned (OpenSpec.ofChange fnExactEntryTextWrong)

/-- 'laws.FnExactJournalOk': WHATEVER THE INPUT: true; the input reads as it did. -/
def fnExactJournalOkSpec : ChangeSpec := { name := "fnExactJournalOk", fn := fun _ => fun
  | [d] => { results := [.lit (.bool true)], args := [d] }
  | _ => none }
def fnExactJournalOkRow : OpenClaim := { program := "ytlodhcmbonljgaa", sum := "e15cf156c8470bea460c2802f6a114e1bc3b072216f5c3965525bf64b1a82d1b", func := "loop.example/g00141/laws.FnExactJournalOk", spec := "fnExactJournalOk", apart := false }
def FnExactJournalOkSaid : Prop := fnExactJournalOkRow.holds Try.pinned (OpenSpec.ofChange fnExactJournalOkSpec)

/-- ITS FALSE NEIGHBOUR: 'it returns false'. Refute it at one input. -/
def fnExactJournalOkWrong : ChangeSpec := { name := "fnExactJournalOk", fn := fun _ => fun
  | [d] => { results := [.lit (.bool false)], args := [d] }
  | _ => none }
def FnExactJournalOkWrongFalsely : Prop := fnExactJournalOkRow.holds Try.pinned (OpenSpec.ofChange fnExactJournalOkWrong)

/-- 'laws.FnExactReadFrames': WHATEVER THE INPUT: true; the input reads as it did. -/
def fnExactReadFramesSpec : ChangeSpec := { name := "fnExactReadFrames", fn := fun _ => fun
  | [d] => { results := [.lit (.bool true)], args := [d] }
  | _ => none }
def fnExactReadFramesRow : OpenClaim := { program := "ytlodhcmbonljgaa", sum := "e15cf156c8470bea460c2802f6a114e1bc3b072216f5c3965525bf64b1a82d1b", func := "loop.example/g00141/laws.FnExactReadFrames", spec := "fnExactReadFrames", named := ["encoding/binary.LittleEndian"], apart := false }
def FnExactReadFramesSaid : Prop := fnExactReadFramesRow.holds Try.pinned (OpenSpec.ofChange fnExactReadFramesSpec)

/-- ITS FALSE NEIGHBOUR: 'it returns false'. Refute it at one input. -/
def fnExactReadFramesWrong : ChangeSpec := { name := "fnExactReadFrames", fn := fun _ => fun
  | [d] => { results := [.lit (.bool false)], args := [d] }
  | _ => none }
def FnExactReadFramesWrongFalsely : Prop := fnExactReadFramesRow.holds Try.pinned (OpenSpec.ofChange fnExactReadFramesWrong)

/-- 'laws.FnBitFound': WHATEVER THE INPUT: true; the input reads as it did. -/
def fnBitFoundSpec : ChangeSpec := { name := "fnBitFound", fn := fun _ => fun
  | [d] => { results := [.lit (.bool true)], args := [d] }
  | _ => none }
def fnBitFoundRow : OpenClaim := { program := "ytlodhcmbonljgaa", sum := "e15cf156c8470bea460c2802f6a114e1bc3b072216f5c3965525bf64b1a82d1b", func := "loop.example/g00141/laws.FnBitFound", spec := "fnBitFound", named := ["encoding/binary.LittleEndian"], apart := false }
def FnBitFoundSaid : Prop := fnBitFoundRow.holds Try.pinned (OpenSpec.ofChange fnBitFoundSpec)

/-- ITS FALSE NEIGHBOUR: 'it returns false'. Refute it at one input. -/
def fnBitFoundWrong : ChangeSpec := { name := "fnBitFound", fn := fun _ => fun
  | [d] => { results := [.lit (.bool false)], args := [d] }
  | _ => none }
def FnBitFoundWrongFalsely : Prop := fnBitFoundRow.holds Try.pinned (OpenSpec.ofChange fnBitFoundWrong)

/-- 'laws.FnNumbers': WHATEVER THE INPUT: true; the input reads as it did. -/
def fnNumbersSpec : ChangeSpec := { name := "fnNumbers", fn := fun _ => fun
  | [d1, d2] => { results := [.lit (.bool true)], args := [d1, d2] }
  | _ => none }
def fnNumbersRow : OpenClaim := { program := "ytlodhcmbonljgaa", sum := "e15cf156c8470bea460c2802f6a114e1bc3b072216f5c3965525bf64b1a82d1b", func := "loop.example/g00141/laws.FnNumbers", spec := "fnNumbers", apart := false }
def FnNumbersSaid : Prop := fnNumbersRow.holds Try.pinned (OpenSpec.ofChange fnNumbersSpec)

/-- ITS FALSE NEIGHBOUR: 'it returns false'. Refute it at one input. -/
def fnNumbersWrong : ChangeSpec := { name := "fnNumbers", fn := fun _ => fun
  | [d1, d2] => { results := [.lit (.bool false)], args := [d1, d2] }
  | _ => none }
def FnNumbersWrongFalsely : Prop := fnNumbersRow.holds Try.pinned (OpenSpec.ofChange fnNumbersWrong)

/-- 'laws.FnExactBetween': WHATEVER THE INPUT: true; the input reads as it did. -/
def fnExactBetweenSpec : ChangeSpec := { name := "fnExactBetween", fn := fun _ => fun
  | [d1, d2, d3] => { results := [.lit (.bool true)], args := [d1, d2, d3] }
  | _ => none }
def fnExactBetweenRow : OpenClaim := { program := "ytlodhcmbonljgaa", sum := "e15cf156c8470bea460c2802f6a114e1bc3b072216f5c3965525bf64b1a82d1b", func := "loop.example/g00141/laws.FnExactBetween", spec := "fnExactBetween", apart := false }
def FnExactBetweenSaid : Prop := fnExactBetweenRow.holds Try.pinned (OpenSpec.ofChange fnExactBetweenSpec)

/-- ITS FALSE NEIGHBOUR: 'it returns false'. Refute it at one input. -/
def fnExactBetweenWrong : ChangeSpec := { name := "fnExactBetween", fn := fun _ => fun
  | [d1, d2, d3] => { results := [.lit (.bool false)], args := [d1, d2, d3] }
  | _ => none }
def FnExactBetweenWrongFalsely : Prop := fnExactBetweenRow.holds Try.pinned (OpenSpec.ofChange fnExactBetweenWrong)

/-- 'laws.FnExactPost': WHATEVER THE INPUT: true; the input reads as it did. -/
def fnExactPostSpec : ChangeSpec := { name := "fnExactPost", fn := fun _ => fun
  | [d1, d2, d3, d4] => { results := [.lit (.bool true)], args := [d1, d2, d3, d4] }
  | _ => none }
def fnExactPostRow : OpenClaim := { program := "ytlodhcmbonljgaa", sum := "e15cf156c8470bea460c2802f6a114e1bc3b072216f5c3965525bf64b1a82d1b", func := "loop.example/g00141/laws.FnExactPost", spec := "fnExactPost", apart := false }
def FnExactPostSaid : Prop := fnExactPostRow.holds Try.pinned (OpenSpec.ofChange fnExactPostSpec)

/-- ITS FALSE NEIGHBOUR: 'it returns false'. Refute it at one input. -/
def fnExactPostWrong : ChangeSpec := { name := "fnExactPost", fn := fun _ => fun
  | [d1, d2, d3, d4] => { results := [.lit (.bool false)], args := [d1, d2, d3, d4] }
  | _ => none }
def FnExactPostWrongFalsely : Prop := fnExactPostRow.holds Try.pinned (OpenSpec.ofChange fnExactPostWrong)

/- THE SECOND FORM. 'bulk': how many values and letters a reading holds, each counted each time it is reached (what is shared counts as often as it is met; a slice's spare places count too). A statement '..UptoSaid' is the law's where the arguments, and the package variables that the reading takes, are together of bulk at most 1048576: NARROWER than '..Said'. Prove '..Said' where nothing that the law and all that it calls make is longer than what came in: it says more and counts as full. Else prove '..UptoSaid'. A law counts once. -/
mutual
def uptoBulk {H : Type} : DataW H → Nat
  | .lit (.string bytes) => bytes.length + 1
  | .lit _ => 1
  | .nil => 1
  | .ptr d => uptoBulk d + 1
  | .slice elems spare => uptoBulkAll elems + uptoBulkAll spare + 1
  | .agg parts => uptoBulkAll parts + 1
  | .iface _ d => uptoBulk d + 1
  | .map entries => uptoBulkEntries entries + 1
  | .held _ => 1
def uptoBulkAll {H : Type} : List (DataW H) → Nat
  | [] => 0
  | d :: r => uptoBulk d + uptoBulkAll r
def uptoBulkEntries {H : Type} : List (Lit × DataW H) → Nat
  | [] => 0
  | x :: r => uptoBulkEntry x + uptoBulkEntries r
def uptoBulkEntry {H : Type} : Lit × DataW H → Nat
  | (.string bytes, d) => bytes.length + uptoBulk d + 1
  | (_, d) => uptoBulk d + 1
 end
def uptoSmall : (H : Type) → List (DataW H) → Bool := fun _ ds => decide (uptoBulkAll ds ≤ 1048576)
def OpenSpec.upto (s : _root_.Go.ChangeSpec) : _root_.Go.OpenSpec := { _root_.Go.OpenSpec.ofChange s with cond := some uptoSmall }

/-- 'laws.FnExactTakeNumber', WHERE WHAT IT READS IS OF BULK AT MOST 1048576: true; the input reads as it did. -/
def fnExactTakeNumberUptoRow : OpenClaim := { program := "ytlodhcmbonljgaa", sum := "e15cf156c8470bea460c2802f6a114e1bc3b072216f5c3965525bf64b1a82d1b", func := "loop.example/g00141/laws.FnExactTakeNumber", spec := "fnExactTakeNumber", apart := false, narrowed := true }
def FnExactTakeNumberUptoSaid : Prop := fnExactTakeNumberUptoRow.holds Try.pinned (OpenSpec.upto fnExactTakeNumberSpec)

/-- 'laws.FnExactTakeText', WHERE WHAT IT READS IS OF BULK AT MOST 1048576: true; the input reads as it did. -/
def fnExactTakeTextUptoRow : OpenClaim := { program := "ytlodhcmbonljgaa", sum := "e15cf156c8470bea460c2802f6a114e1bc3b072216f5c3965525bf64b1a82d1b", func := "loop.example/g00141/laws.FnExactTakeText", spec := "fnExactTakeText", apart := false, narrowed := true }
def FnExactTakeTextUptoSaid : Prop := fnExactTakeTextUptoRow.holds Try.pinned (OpenSpec.upto fnExactTakeTextSpec)

/-- 'laws.FnRotated', WHERE WHAT IT READS IS OF BULK AT MOST 1048576: true; the input reads as it did. -/
def fnRotatedUptoRow : OpenClaim := { program := "ytlodhcmbonljgaa", sum := "e15cf156c8470bea460c2802f6a114e1bc3b072216f5c3965525bf64b1a82d1b", func := "loop.example/g00141/laws.FnRotated", spec := "fnRotated", apart := false, narrowed := true }
def FnRotatedUptoSaid : Prop := fnRotatedUptoRow.holds Try.pinned (OpenSpec.upto fnRotatedSpec)

/-- 'laws.FnExactWriteFrame', WHERE WHAT IT READS IS OF BULK AT MOST 1048576: true; the input reads as it did. -/
def fnExactWriteFrameUptoRow : OpenClaim := { program := "ytlodhcmbonljgaa", sum := "e15cf156c8470bea460c2802f6a114e1bc3b072216f5c3965525bf64b1a82d1b", func := "loop.example/g00141/laws.FnExactWriteFrame", spec := "fnExactWriteFrame", named := ["encoding/binary.LittleEndian"], apart := false, narrowed := true }
def FnExactWriteFrameUptoSaid : Prop := fnExactWriteFrameUptoRow.holds Try.pinned (OpenSpec.upto fnExactWriteFrameSpec)

/-- 'laws.FnExactNetOk', WHERE WHAT IT READS IS OF BULK AT MOST 1048576: true; the input reads as it did. -/
def fnExactNetOkUptoRow : OpenClaim := { program := "ytlodhcmbonljgaa", sum := "e15cf156c8470bea460c2802f6a114e1bc3b072216f5c3965525bf64b1a82d1b", func := "loop.example/g00141/laws.FnExactNetOk", spec := "fnExactNetOk", apart := false, narrowed := true }
def FnExactNetOkUptoSaid : Prop := fnExactNetOkUptoRow.holds Try.pinned (OpenSpec.upto fnExactNetOkSpec)

/-- 'laws.FnExactEntryText', WHERE WHAT IT READS IS OF BULK AT MOST 1048576: true; the input reads as it did. -/
def fnExactEntryTextUptoRow : OpenClaim := { program := "ytlodhcmbonljgaa", sum := "e15cf156c8470bea460c2802f6a114e1bc3b072216f5c3965525bf64b1a82d1b", func := "loop.example/g00141/laws.FnExactEntryText", spec := "fnExactEntryText", named := ["encoding/binary.LittleEndian"], apart := false, narrowed := true }
def FnExactEntryTextUptoSaid : Prop := fnExactEntryTextUptoRow.holds Try.pinned (OpenSpec.upto fnExactEntryTextSpec)

/-- 'laws.FnExactJournalOk', WHERE WHAT IT READS IS OF BULK AT MOST 1048576: true; the input reads as it did. -/
def fnExactJournalOkUptoRow : OpenClaim := { program := "ytlodhcmbonljgaa", sum := "e15cf156c8470bea460c2802f6a114e1bc3b072216f5c3965525bf64b1a82d1b", func := "loop.example/g00141/laws.FnExactJournalOk", spec := "fnExactJournalOk", apart := false, narrowed := true }
def FnExactJournalOkUptoSaid : Prop := fnExactJournalOkUptoRow.holds Try.pinned (OpenSpec.upto fnExactJournalOkSpec)

/-- 'laws.FnExactReadFrames', WHERE WHAT IT READS IS OF BULK AT MOST 1048576: true; the input reads as it did. -/
def fnExactReadFramesUptoRow : OpenClaim := { program := "ytlodhcmbonljgaa", sum := "e15cf156c8470bea460c2802f6a114e1bc3b072216f5c3965525bf64b1a82d1b", func := "loop.example/g00141/laws.FnExactReadFrames", spec := "fnExactReadFrames", named := ["encoding/binary.LittleEndian"], apart := false, narrowed := true }
def FnExactReadFramesUptoSaid : Prop := fnExactReadFramesUptoRow.holds Try.pinned (OpenSpec.upto fnExactReadFramesSpec)

/-- 'laws.FnBitFound', WHERE WHAT IT READS IS OF BULK AT MOST 1048576: true; the input reads as it did. -/
def fnBitFoundUptoRow : OpenClaim := { program := "ytlodhcmbonljgaa", sum := "e15cf156c8470bea460c2802f6a114e1bc3b072216f5c3965525bf64b1a82d1b", func := "loop.example/g00141/laws.FnBitFound", spec := "fnBitFound", named := ["encoding/binary.LittleEndian"], apart := false, narrowed := true }
def FnBitFoundUptoSaid : Prop := fnBitFoundUptoRow.holds Try.pinned (OpenSpec.upto fnBitFoundSpec)

/-- 'laws.FnNumbers', WHERE WHAT IT READS IS OF BULK AT MOST 1048576: true; the input reads as it did. -/
def fnNumbersUptoRow : OpenClaim := { program := "ytlodhcmbonljgaa", sum := "e15cf156c8470bea460c2802f6a114e1bc3b072216f5c3965525bf64b1a82d1b", func := "loop.example/g00141/laws.FnNumbers", spec := "fnNumbers", apart := false, narrowed := true }
def FnNumbersUptoSaid : Prop := fnNumbersUptoRow.holds Try.pinned (OpenSpec.upto fnNumbersSpec)

/-- 'laws.FnExactBetween', WHERE WHAT IT READS IS OF BULK AT MOST 1048576: true; the input reads as it did. -/
def fnExactBetweenUptoRow : OpenClaim := { program := "ytlodhcmbonljgaa", sum := "e15cf156c8470bea460c2802f6a114e1bc3b072216f5c3965525bf64b1a82d1b", func := "loop.example/g00141/laws.FnExactBetween", spec := "fnExactBetween", apart := false, narrowed := true }
def FnExactBetweenUptoSaid : Prop := fnExactBetweenUptoRow.holds Try.pinned (OpenSpec.upto fnExactBetweenSpec)

/-- 'laws.FnExactPost', WHERE WHAT IT READS IS OF BULK AT MOST 1048576: true; the input reads as it did. -/
def fnExactPostUptoRow : OpenClaim := { program := "ytlodhcmbonljgaa", sum := "e15cf156c8470bea460c2802f6a114e1bc3b072216f5c3965525bf64b1a82d1b", func := "loop.example/g00141/laws.FnExactPost", spec := "fnExactPost", apart := false, narrowed := true }
def FnExactPostUptoSaid : Prop := fnExactPostUptoRow.holds Try.pinned (OpenSpec.upto fnExactPostSpec)

end Rows
end Go.Proofs.Ytlodhcmbonljgaa
