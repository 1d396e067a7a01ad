/-
  No cell of these rows narrows 'for every input' (looked for: loops, veiled, ifaces, maps, wideKeys, modest, calm, conditions, laid).
  DERIVED. THE GIVEN ROWS OF THIS SEAT. 9 by the template 'for every input the law returns true; each argument reads behind the call as it read before'; 0 by the template 'total and deterministic' (their statements: YtcefbmcehmkpnaaTotals.lean).
  GIVEN WITH THE SEED: the statements are not yours to turn. If you find one false, say at which input.
  Laid BY PROGRAM, IN A SANDBOX (cutbox-rows.mjs): the forced cells as the released guide's own fill.sh prints them over the translation 8629db343cd0cf88… (all of the seat's roots in one cut). By AI agents, Wed Nov 11 2026. No macro, syntax, notation, axiom, sorry.
-/
import Derived.Test.YtcefbmcehmkpnaaChecked
import GoSem.Claim
import GoSem.ClaimJoined
import GoSem.ClaimMapViews
import Derived.JoinedTies
import Derived.KernelRfl
namespace Go.Proofs.Ytcefbmcehmkpnaa
/- THE CELL 'sum', in the pinned program and in every row, IS THE sha256 OF THE DUMP (.gsa) THAT YtcefbmcehmkpnaaProg.lean LOADS. Nothing in Lean hashes anything: it is a label: what it is worth is what the hold of that sum in a sandbox is worth. -/
noncomputable def Try.pinned : Pinned := { name := "ytcefbmcehmkpnaa", sum := "8629db343cd0cf88863450b08c2f6389202c7c6817724859c57b1306b70d987d", checked := Try.checked }
namespace Rows
def none {H : Type} : Left H := { results := [], args := [] }

/-- 'laws.FnCut': WHATEVER THE INPUT: true; the input reads as it did. -/
def fnCutSpec : ChangeSpec := { name := "fnCut", fn := fun _ => fun
  | [d] => { results := [.lit (.bool true)], args := [d] }
  | _ => none }
def fnCutRow : OpenClaim := { program := "ytcefbmcehmkpnaa", sum := "8629db343cd0cf88863450b08c2f6389202c7c6817724859c57b1306b70d987d", func := "loop.example/g00141/laws.FnCut", spec := "fnCut", apart := false }
def FnCutSaid : Prop := fnCutRow.holds Try.pinned (OpenSpec.ofChange fnCutSpec)

/-- ITS FALSE NEIGHBOUR: 'it returns false'. Refute it at one input. -/
def fnCutWrong : ChangeSpec := { name := "fnCut", fn := fun _ => fun
  | [d] => { results := [.lit (.bool false)], args := [d] }
  | _ => none }
def FnCutWrongFalsely : Prop := fnCutRow.holds Try.pinned (OpenSpec.ofChange fnCutWrong)

/-- 'laws.FnExactTake': WHATEVER THE INPUT: true; the input reads as it did. -/
def fnExactTakeSpec : ChangeSpec := { name := "fnExactTake", fn := fun _ => fun
  | [d1, d2, d3] => { results := [.lit (.bool true)], args := [d1, d2, d3] }
  | _ => none }
def fnExactTakeRow : OpenClaim := { program := "ytcefbmcehmkpnaa", sum := "8629db343cd0cf88863450b08c2f6389202c7c6817724859c57b1306b70d987d", func := "loop.example/g00141/laws.FnExactTake", spec := "fnExactTake", unfollowed := true, recurses := true, apart := false }
def FnExactTakeSaid : Prop := fnExactTakeRow.holds Try.pinned (OpenSpec.ofChange fnExactTakeSpec)

/-- ITS FALSE NEIGHBOUR: 'it returns false'. Refute it at one input. -/
def fnExactTakeWrong : ChangeSpec := { name := "fnExactTake", fn := fun _ => fun
  | [d1, d2, d3] => { results := [.lit (.bool false)], args := [d1, d2, d3] }
  | _ => none }
def FnExactTakeWrongFalsely : Prop := fnExactTakeRow.holds Try.pinned (OpenSpec.ofChange fnExactTakeWrong)

/-- 'laws.FnPosted': WHATEVER THE INPUT: true; the input reads as it did. -/
def fnPostedSpec : ChangeSpec := { name := "fnPosted", fn := fun _ => fun
  | [d] => { results := [.lit (.bool true)], args := [d] }
  | _ => none }
def fnPostedRow : OpenClaim := { program := "ytcefbmcehmkpnaa", sum := "8629db343cd0cf88863450b08c2f6389202c7c6817724859c57b1306b70d987d", func := "loop.example/g00141/laws.FnPosted", spec := "fnPosted", unfollowed := true, recurses := true, apart := false }
def FnPostedSaid : Prop := fnPostedRow.holds Try.pinned (OpenSpec.ofChange fnPostedSpec)

/-- ITS FALSE NEIGHBOUR: 'it returns false'. Refute it at one input. -/
def fnPostedWrong : ChangeSpec := { name := "fnPosted", fn := fun _ => fun
  | [d] => { results := [.lit (.bool false)], args := [d] }
  | _ => none }
def FnPostedWrongFalsely : Prop := fnPostedRow.holds Try.pinned (OpenSpec.ofChange fnPostedWrong)

/-- 'laws.FnExactCutting': WHATEVER THE INPUT: true; the input reads as it did. -/
def fnExactCuttingSpec : ChangeSpec := { name := "fnExactCutting", fn := fun _ => fun
  | [d1, d2] => { results := [.lit (.bool true)], args := [d1, d2] }
  | _ => none }
def fnExactCuttingRow : OpenClaim := { program := "ytcefbmcehmkpnaa", sum := "8629db343cd0cf88863450b08c2f6389202c7c6817724859c57b1306b70d987d", func := "loop.example/g00141/laws.FnExactCutting", spec := "fnExactCutting", apart := false }
def FnExactCuttingSaid : Prop := fnExactCuttingRow.holds Try.pinned (OpenSpec.ofChange fnExactCuttingSpec)

/-- ITS FALSE NEIGHBOUR: 'it returns false'. Refute it at one input. -/
def fnExactCuttingWrong : ChangeSpec := { name := "fnExactCutting", fn := fun _ => fun
  | [d1, d2] => { results := [.lit (.bool false)], args := [d1, d2] }
  | _ => none }
def FnExactCuttingWrongFalsely : Prop := fnExactCuttingRow.holds Try.pinned (OpenSpec.ofChange fnExactCuttingWrong)

/-- 'laws.FnExactMixed': WHATEVER THE INPUT: true; the input reads as it did. -/
def fnExactMixedSpec : ChangeSpec := { name := "fnExactMixed", fn := fun _ => fun
  | [d1, d2] => { results := [.lit (.bool true)], args := [d1, d2] }
  | _ => none }
def fnExactMixedRow : OpenClaim := { program := "ytcefbmcehmkpnaa", sum := "8629db343cd0cf88863450b08c2f6389202c7c6817724859c57b1306b70d987d", func := "loop.example/g00141/laws.FnExactMixed", spec := "fnExactMixed", named := ["encoding/binary.BigEndian"], apart := false }
def FnExactMixedSaid : Prop := fnExactMixedRow.holds Try.pinned (OpenSpec.ofChange fnExactMixedSpec)

/-- ITS FALSE NEIGHBOUR: 'it returns false'. Refute it at one input. -/
def fnExactMixedWrong : ChangeSpec := { name := "fnExactMixed", fn := fun _ => fun
  | [d1, d2] => { results := [.lit (.bool false)], args := [d1, d2] }
  | _ => none }
def FnExactMixedWrongFalsely : Prop := fnExactMixedRow.holds Try.pinned (OpenSpec.ofChange fnExactMixedWrong)

/-- 'laws.FnExactDigest': WHATEVER THE INPUT: true; the input reads as it did. -/
def fnExactDigestSpec : ChangeSpec := { name := "fnExactDigest", fn := fun _ => fun
  | [d] => { results := [.lit (.bool true)], args := [d] }
  | _ => none }
def fnExactDigestRow : OpenClaim := { program := "ytcefbmcehmkpnaa", sum := "8629db343cd0cf88863450b08c2f6389202c7c6817724859c57b1306b70d987d", func := "loop.example/g00141/laws.FnExactDigest", spec := "fnExactDigest", named := ["encoding/binary.BigEndian"], apart := false }
def FnExactDigestSaid : Prop := fnExactDigestRow.holds Try.pinned (OpenSpec.ofChange fnExactDigestSpec)

/-- ITS FALSE NEIGHBOUR: 'it returns false'. Refute it at one input. -/
def fnExactDigestWrong : ChangeSpec := { name := "fnExactDigest", fn := fun _ => fun
  | [d] => { results := [.lit (.bool false)], args := [d] }
  | _ => none }
def FnExactDigestWrongFalsely : Prop := fnExactDigestRow.holds Try.pinned (OpenSpec.ofChange fnExactDigestWrong)

/-- 'laws.FnExactSum': WHATEVER THE INPUT: true; the input reads as it did. -/
def fnExactSumSpec : ChangeSpec := { name := "fnExactSum", fn := fun _ => fun
  | [d] => { results := [.lit (.bool true)], args := [d] }
  | _ => none }
def fnExactSumRow : OpenClaim := { program := "ytcefbmcehmkpnaa", sum := "8629db343cd0cf88863450b08c2f6389202c7c6817724859c57b1306b70d987d", func := "loop.example/g00141/laws.FnExactSum", spec := "fnExactSum", named := ["encoding/binary.BigEndian"], apart := false }
def FnExactSumSaid : Prop := fnExactSumRow.holds Try.pinned (OpenSpec.ofChange fnExactSumSpec)

/-- ITS FALSE NEIGHBOUR: 'it returns false'. Refute it at one input. -/
def fnExactSumWrong : ChangeSpec := { name := "fnExactSum", fn := fun _ => fun
  | [d] => { results := [.lit (.bool false)], args := [d] }
  | _ => none }
def FnExactSumWrongFalsely : Prop := fnExactSumRow.holds Try.pinned (OpenSpec.ofChange fnExactSumWrong)

/-- 'laws.FnExactCrc': WHATEVER THE INPUT: true; the input reads as it did. -/
def fnExactCrcSpec : ChangeSpec := { name := "fnExactCrc", fn := fun _ => fun
  | [d] => { results := [.lit (.bool true)], args := [d] }
  | _ => none }
def fnExactCrcRow : OpenClaim := { program := "ytcefbmcehmkpnaa", sum := "8629db343cd0cf88863450b08c2f6389202c7c6817724859c57b1306b70d987d", func := "loop.example/g00141/laws.FnExactCrc", spec := "fnExactCrc", apart := false }
def FnExactCrcSaid : Prop := fnExactCrcRow.holds Try.pinned (OpenSpec.ofChange fnExactCrcSpec)

/-- ITS FALSE NEIGHBOUR: 'it returns false'. Refute it at one input. -/
def fnExactCrcWrong : ChangeSpec := { name := "fnExactCrc", fn := fun _ => fun
  | [d] => { results := [.lit (.bool false)], args := [d] }
  | _ => none }
def FnExactCrcWrongFalsely : Prop := fnExactCrcRow.holds Try.pinned (OpenSpec.ofChange fnExactCrcWrong)

/-- 'laws.FnExactConstants': WHATEVER THE INPUT: true; the input reads as it did. -/
def fnExactConstantsSpec : ChangeSpec := { name := "fnExactConstants", fn := fun _ => fun
  | [] => { results := [.lit (.bool true)], args := [] }
  | _ => none }
def fnExactConstantsRow : OpenClaim := { program := "ytcefbmcehmkpnaa", sum := "8629db343cd0cf88863450b08c2f6389202c7c6817724859c57b1306b70d987d", func := "loop.example/g00141/laws.FnExactConstants", spec := "fnExactConstants", apart := false }
def FnExactConstantsSaid : Prop := fnExactConstantsRow.holds Try.pinned (OpenSpec.ofChange fnExactConstantsSpec)

/-- ITS FALSE NEIGHBOUR: 'it returns false'. Refute it at one input. -/
def fnExactConstantsWrong : ChangeSpec := { name := "fnExactConstants", fn := fun _ => fun
  | [] => { results := [.lit (.bool false)], args := [] }
  | _ => none }
def FnExactConstantsWrongFalsely : Prop := fnExactConstantsRow.holds Try.pinned (OpenSpec.ofChange fnExactConstantsWrong)

/- THE SECOND FORM. 'bulk': how many values and letters a reading holds, each counted each time it is reached (what is shared counts as often as it is met; a slice's spare places count too). A statement '..UptoSaid' is the law's where the arguments, and the package variables that the reading takes, are together of bulk at most 1048576: NARROWER than '..Said'. Prove '..Said' where nothing that the law and all that it calls make is longer than what came in: it says more and counts as full. Else prove '..UptoSaid'. A law counts once. -/
mutual
def uptoBulk {H : Type} : DataW H → Nat
  | .lit (.string bytes) => bytes.length + 1
  | .lit _ => 1
  | .nil => 1
  | .ptr d => uptoBulk d + 1
  | .slice elems spare => uptoBulkAll elems + uptoBulkAll spare + 1
  | .agg parts => uptoBulkAll parts + 1
  | .iface _ d => uptoBulk d + 1
  | .map entries => uptoBulkEntries entries + 1
  | .held _ => 1
def uptoBulkAll {H : Type} : List (DataW H) → Nat
  | [] => 0
  | d :: r => uptoBulk d + uptoBulkAll r
def uptoBulkEntries {H : Type} : List (Lit × DataW H) → Nat
  | [] => 0
  | x :: r => uptoBulkEntry x + uptoBulkEntries r
def uptoBulkEntry {H : Type} : Lit × DataW H → Nat
  | (.string bytes, d) => bytes.length + uptoBulk d + 1
  | (_, d) => uptoBulk d + 1
 end
def uptoSmall : (H : Type) → List (DataW H) → Bool := fun _ ds => decide (uptoBulkAll ds ≤ 1048576)
def OpenSpec.upto (s : _root_.Go.ChangeSpec) : _root_.Go.OpenSpec := { _root_.Go.OpenSpec.ofChange s with cond := some uptoSmall }

/-- 'laws.FnCut', WHERE WHAT IT READS IS OF BULK AT MOST 1048576: true; the input reads as it did. -/
def fnCutUptoRow : OpenClaim := { program := "ytcefbmcehmkpnaa", sum := "8629db343cd0cf88863450b08c2f6389202c7c6817724859c57b1306b70d987d", func := "loop.example/g00141/laws.FnCut", spec := "fnCut", apart := false, narrowed := true }
def FnCutUptoSaid : Prop := fnCutUptoRow.holds Try.pinned (OpenSpec.upto fnCutSpec)

/-- 'laws.FnExactTake', WHERE WHAT IT READS IS OF BULK AT MOST 1048576: true; the input reads as it did. -/
def fnExactTakeUptoRow : OpenClaim := { program := "ytcefbmcehmkpnaa", sum := "8629db343cd0cf88863450b08c2f6389202c7c6817724859c57b1306b70d987d", func := "loop.example/g00141/laws.FnExactTake", spec := "fnExactTake", unfollowed := true, recurses := true, apart := false, narrowed := true }
def FnExactTakeUptoSaid : Prop := fnExactTakeUptoRow.holds Try.pinned (OpenSpec.upto fnExactTakeSpec)

/-- 'laws.FnPosted', WHERE WHAT IT READS IS OF BULK AT MOST 1048576: true; the input reads as it did. -/
def fnPostedUptoRow : OpenClaim := { program := "ytcefbmcehmkpnaa", sum := "8629db343cd0cf88863450b08c2f6389202c7c6817724859c57b1306b70d987d", func := "loop.example/g00141/laws.FnPosted", spec := "fnPosted", unfollowed := true, recurses := true, apart := false, narrowed := true }
def FnPostedUptoSaid : Prop := fnPostedUptoRow.holds Try.pinned (OpenSpec.upto fnPostedSpec)

/-- 'laws.FnExactCutting', WHERE WHAT IT READS IS OF BULK AT MOST 1048576: true; the input reads as it did. -/
def fnExactCuttingUptoRow : OpenClaim := { program := "ytcefbmcehmkpnaa", sum := "8629db343cd0cf88863450b08c2f6389202c7c6817724859c57b1306b70d987d", func := "loop.example/g00141/laws.FnExactCutting", spec := "fnExactCutting", apart := false, narrowed := true }
def FnExactCuttingUptoSaid : Prop := fnExactCuttingUptoRow.holds Try.pinned (OpenSpec.upto fnExactCuttingSpec)

/-- 'laws.FnExactMixed', WHERE WHAT IT READS IS OF BULK AT MOST 1048576: true; the input reads as it did. -/
def fnExactMixedUptoRow : OpenClaim := { program := "ytcefbmcehmkpnaa", sum := "8629db343cd0cf88863450b08c2f6389202c7c6817724859c57b1306b70d987d", func := "loop.example/g00141/laws.FnExactMixed", spec := "fnExactMixed", named := ["encoding/binary.BigEndian"], apart := false, narrowed := true }
def FnExactMixedUptoSaid : Prop := fnExactMixedUptoRow.holds Try.pinned (OpenSpec.upto fnExactMixedSpec)

/-- 'laws.FnExactDigest', WHERE WHAT IT READS IS OF BULK AT MOST 1048576: true; the input reads as it did. -/
def fnExactDigestUptoRow : OpenClaim := { program := "ytcefbmcehmkpnaa", sum := "8629db343cd0cf88863450b08c2f6389202c7c6817724859c57b1306b70d987d", func := "loop.example/g00141/laws.FnExactDigest", spec := "fnExactDigest", named := ["encoding/binary.BigEndian"], apart := false, narrowed := true }
def FnExactDigestUptoSaid : Prop := fnExactDigestUptoRow.holds Try.pinned (OpenSpec.upto fnExactDigestSpec)

/-- 'laws.FnExactSum', WHERE WHAT IT READS IS OF BULK AT MOST 1048576: true; the input reads as it did. -/
def fnExactSumUptoRow : OpenClaim := { program := "ytcefbmcehmkpnaa", sum := "8629db343cd0cf88863450b08c2f6389202c7c6817724859c57b1306b70d987d", func := "loop.example/g00141/laws.FnExactSum", spec := "fnExactSum", named := ["encoding/binary.BigEndian"], apart := false, narrowed := true }
def FnExactSumUptoSaid : Prop := fnExactSumUptoRow.holds Try.pinned (OpenSpec.upto fnExactSumSpec)

/-- 'laws.FnExactCrc', WHERE WHAT IT READS IS OF BULK AT MOST 1048576: true; the input reads as it did. -/
def fnExactCrcUptoRow : OpenClaim := { program := "ytcefbmcehmkpnaa", sum := "8629db343cd0cf88863450b08c2f6389202c7c6817724859c57b1306b70d987d", func := "loop.example/g00141/laws.FnExactCrc", spec := "fnExactCrc", apart := false, narrowed := true }
def FnExactCrcUptoSaid : Prop := fnExactCrcUptoRow.holds Try.pinned (OpenSpec.upto fnExactCrcSpec)

/-- 'laws.FnExactConstants', WHERE WHAT IT READS IS OF BULK AT MOST 1048576: true; the input reads as it did. -/
def fnExactConstantsUptoRow : OpenClaim := { program := "ytcefbmcehmkpnaa", sum := "8629db343cd0cf88863450b08c2f6389202c7c6817724859c57b1306b70d987d", func := "loop.example/g00141/laws.FnExactConstants", spec := "fnExactConstants", apart := false, narrowed := true }
def FnExactConstantsUptoSaid : Prop := fnExactConstantsUptoRow.holds Try.pinned (OpenSpec.upto fnExactConstantsSpec)

end Rows
end Go.Proofs.Ytcefbmcehmkpnaa
