/-
  NARROWER THAN 'FOR EVERY INPUT', by the rows' own cells (each row's printed sentence says how): FnExactRepoOk: laid · FnExactWriteRef: laid · FnExactReadRef: laid · FnExactReadManifest: laid · FnRefs: laid.
  DERIVED. THE GIVEN ROWS OF THIS SEAT. 5 by the template 'for every input the law returns true; each argument reads behind the call as it read before'; 0 by the template 'total and deterministic' (their statements: YtldpdaifajjaeaaDoorTotals.lean).
  GIVEN WITH THE SEED: the statements are not yours to turn. If you find one false, say at which input.
  Laid BY PROGRAM, IN A SANDBOX (cutbox-rows.mjs): the forced cells as the released guide's own fill.sh prints them over the translation 80189910393ac2c5… (all of the seat's roots in one cut). By AI agents, Wed Nov 11 2026. No macro, syntax, notation, axiom, sorry.
-/
import Derived.Test.YtldpdaifajjaeaaDoorChecked
import GoSem.PinnedTables
import GoSem.Claim
import GoSem.ClaimJoined
import GoSem.ClaimMapViews
import Derived.JoinedTies
import Derived.KernelRfl
namespace Go.Proofs.YtldpdaifajjaeaaDoor
/- THE CELL 'sum', in the pinned program and in every row, IS THE sha256 OF THE DUMP (.gsa) THAT YtldpdaifajjaeaaDoorProg.lean LOADS. Nothing in Lean hashes anything: it is a label: what it is worth is what the hold of that sum in a sandbox is worth. -/
noncomputable def Tryd.pinned : Pinned := { name := "ytldpdaifajjaeaadoor", sum := "80189910393ac2c53e5b8f1e4baa0e343b4fbc6ca473e0f5c4696586cc362c3a", checked := Tryd.checked }
namespace Rows
def none {H : Type} : Left H := { results := [], args := [] }

/- WHAT THE LISTED PACKAGE-LEVEL VARIABLES READ AS WHEN THE CALL BEGINS. Each datum BY PROGRAM (the guide's laid-datum.mjs) off the statement by which the dump's own 'gosem.cut.vars' lays the variable. In a bare row this is a premise. The card (YtldpdaifajjaeaaDoorCards.lean) ties it to the program's text. -/
def laid_unicode_utf8_acceptRanges {H : Type} : DataW H := .agg [.agg [.lit (.int .u8 128), .lit (.int .u8 191)], .agg [.lit (.int .u8 160), .lit (.int .u8 191)], .agg [.lit (.int .u8 128), .lit (.int .u8 159)], .agg [.lit (.int .u8 144), .lit (.int .u8 191)], .agg [.lit (.int .u8 128), .lit (.int .u8 143)], .agg [.lit (.int .u8 0), .lit (.int .u8 0)], .agg [.lit (.int .u8 0), .lit (.int .u8 0)], .agg [.lit (.int .u8 0), .lit (.int .u8 0)], .agg [.lit (.int .u8 0), .lit (.int .u8 0)], .agg [.lit (.int .u8 0), .lit (.int .u8 0)], .agg [.lit (.int .u8 0), .lit (.int .u8 0)], .agg [.lit (.int .u8 0), .lit (.int .u8 0)], .agg [.lit (.int .u8 0), .lit (.int .u8 0)], .agg [.lit (.int .u8 0), .lit (.int .u8 0)], .agg [.lit (.int .u8 0), .lit (.int .u8 0)], .agg [.lit (.int .u8 0), .lit (.int .u8 0)]]
/-- One of Go's own tables, pinned by name: the form's constant. -/
def laid_unicode_utf8_first : DataW Unit := Go.Pinned.utf8First

/-- 'laws.FnExactRepoOk': WHATEVER THE INPUT: true; the input reads as it did. -/
def fnExactRepoOkSpec : ChangeSpec := { name := "fnExactRepoOk", fn := fun _ => fun
  | [d] => { results := [.lit (.bool true)], args := [d] }
  | _ => none }
def fnExactRepoOkRow : OpenClaim := { program := "ytldpdaifajjaeaadoor", sum := "80189910393ac2c53e5b8f1e4baa0e343b4fbc6ca473e0f5c4696586cc362c3a", func := "loop.example/g00141/laws.FnExactRepoOk", spec := "fnExactRepoOk", inPlace := ["internal/bytealg.CountString", "internal/bytealg.IndexByteString", "internal/bytealg.IndexString"], named := ["unicode/utf8.first", "unicode/utf8.acceptRanges", "internal/bytealg.MaxLen"], apart := false, laid := [("unicode/utf8.acceptRanges", laid_unicode_utf8_acceptRanges), ("unicode/utf8.first", laid_unicode_utf8_first)] }
def FnExactRepoOkSaid : Prop := fnExactRepoOkRow.holds Tryd.pinned (OpenSpec.ofChange fnExactRepoOkSpec)

/-- ITS FALSE NEIGHBOUR: 'it returns false'. Refute it at one input. -/
def fnExactRepoOkWrong : ChangeSpec := { name := "fnExactRepoOk", fn := fun _ => fun
  | [d] => { results := [.lit (.bool false)], args := [d] }
  | _ => none }
def FnExactRepoOkWrongFalsely : Prop := fnExactRepoOkRow.holds Tryd.pinned (OpenSpec.ofChange fnExactRepoOkWrong)

/-- 'laws.FnExactWriteRef': WHATEVER THE INPUT: true; the input reads as it did. -/
def fnExactWriteRefSpec : ChangeSpec := { name := "fnExactWriteRef", fn := fun _ => fun
  | [d] => { results := [.lit (.bool true)], args := [d] }
  | _ => none }
def fnExactWriteRefRow : OpenClaim := { program := "ytldpdaifajjaeaadoor", sum := "80189910393ac2c53e5b8f1e4baa0e343b4fbc6ca473e0f5c4696586cc362c3a", func := "loop.example/g00141/laws.FnExactWriteRef", spec := "fnExactWriteRef", inPlace := ["internal/bytealg.CountString", "internal/bytealg.IndexByteString", "internal/bytealg.IndexString"], named := ["unicode/utf8.first", "unicode/utf8.acceptRanges", "internal/bytealg.MaxLen"], apart := false, laid := [("unicode/utf8.acceptRanges", laid_unicode_utf8_acceptRanges), ("unicode/utf8.first", laid_unicode_utf8_first)] }
def FnExactWriteRefSaid : Prop := fnExactWriteRefRow.holds Tryd.pinned (OpenSpec.ofChange fnExactWriteRefSpec)

/-- ITS FALSE NEIGHBOUR: 'it returns false'. Refute it at one input. -/
def fnExactWriteRefWrong : ChangeSpec := { name := "fnExactWriteRef", fn := fun _ => fun
  | [d] => { results := [.lit (.bool false)], args := [d] }
  | _ => none }
def FnExactWriteRefWrongFalsely : Prop := fnExactWriteRefRow.holds Tryd.pinned (OpenSpec.ofChange fnExactWriteRefWrong)

/-- 'laws.FnExactReadRef': WHATEVER THE INPUT: true; the input reads as it did. -/
def fnExactReadRefSpec : ChangeSpec := { name := "fnExactReadRef", fn := fun _ => fun
  | [d] => { results := [.lit (.bool true)], args := [d] }
  | _ => none }
def fnExactReadRefRow : OpenClaim := { program := "ytldpdaifajjaeaadoor", sum := "80189910393ac2c53e5b8f1e4baa0e343b4fbc6ca473e0f5c4696586cc362c3a", func := "loop.example/g00141/laws.FnExactReadRef", spec := "fnExactReadRef", inPlace := ["internal/bytealg.IndexByteString", "internal/bytealg.IndexString", "internal/bytealg.CountString"], named := ["internal/bytealg.MaxLen", "unicode/utf8.first", "unicode/utf8.acceptRanges"], apart := false, laid := [("unicode/utf8.acceptRanges", laid_unicode_utf8_acceptRanges), ("unicode/utf8.first", laid_unicode_utf8_first)] }
def FnExactReadRefSaid : Prop := fnExactReadRefRow.holds Tryd.pinned (OpenSpec.ofChange fnExactReadRefSpec)

/-- ITS FALSE NEIGHBOUR: 'it returns false'. Refute it at one input. -/
def fnExactReadRefWrong : ChangeSpec := { name := "fnExactReadRef", fn := fun _ => fun
  | [d] => { results := [.lit (.bool false)], args := [d] }
  | _ => none }
def FnExactReadRefWrongFalsely : Prop := fnExactReadRefRow.holds Tryd.pinned (OpenSpec.ofChange fnExactReadRefWrong)

/-- 'laws.FnExactReadManifest': WHATEVER THE INPUT: true; the input reads as it did. -/
def fnExactReadManifestSpec : ChangeSpec := { name := "fnExactReadManifest", fn := fun _ => fun
  | [d] => { results := [.lit (.bool true)], args := [d] }
  | _ => none }
def fnExactReadManifestRow : OpenClaim := { program := "ytldpdaifajjaeaadoor", sum := "80189910393ac2c53e5b8f1e4baa0e343b4fbc6ca473e0f5c4696586cc362c3a", func := "loop.example/g00141/laws.FnExactReadManifest", spec := "fnExactReadManifest", inPlace := ["internal/bytealg.CountString", "internal/bytealg.IndexByteString", "internal/bytealg.IndexString"], unfollowed := true, recurses := true, named := ["unicode/utf8.first", "unicode/utf8.acceptRanges", "internal/bytealg.MaxLen"], apart := false, laid := [("unicode/utf8.acceptRanges", laid_unicode_utf8_acceptRanges), ("unicode/utf8.first", laid_unicode_utf8_first)] }
def FnExactReadManifestSaid : Prop := fnExactReadManifestRow.holds Tryd.pinned (OpenSpec.ofChange fnExactReadManifestSpec)

/-- ITS FALSE NEIGHBOUR: 'it returns false'. Refute it at one input. -/
def fnExactReadManifestWrong : ChangeSpec := { name := "fnExactReadManifest", fn := fun _ => fun
  | [d] => { results := [.lit (.bool false)], args := [d] }
  | _ => none }
def FnExactReadManifestWrongFalsely : Prop := fnExactReadManifestRow.holds Tryd.pinned (OpenSpec.ofChange fnExactReadManifestWrong)

/-- 'laws.FnRefs': WHATEVER THE INPUT: true; the input reads as it did. -/
def fnRefsSpec : ChangeSpec := { name := "fnRefs", fn := fun _ => fun
  | [d1, d2] => { results := [.lit (.bool true)], args := [d1, d2] }
  | _ => none }
def fnRefsRow : OpenClaim := { program := "ytldpdaifajjaeaadoor", sum := "80189910393ac2c53e5b8f1e4baa0e343b4fbc6ca473e0f5c4696586cc362c3a", func := "loop.example/g00141/laws.FnRefs", spec := "fnRefs", inPlace := ["internal/bytealg.CountString", "internal/bytealg.IndexByteString", "internal/bytealg.IndexString"], named := ["unicode/utf8.first", "unicode/utf8.acceptRanges", "internal/bytealg.MaxLen"], apart := false, laid := [("unicode/utf8.acceptRanges", laid_unicode_utf8_acceptRanges), ("unicode/utf8.first", laid_unicode_utf8_first)] }
def FnRefsSaid : Prop := fnRefsRow.holds Tryd.pinned (OpenSpec.ofChange fnRefsSpec)

/-- ITS FALSE NEIGHBOUR: 'it returns false'. Refute it at one input. -/
def fnRefsWrong : ChangeSpec := { name := "fnRefs", fn := fun _ => fun
  | [d1, d2] => { results := [.lit (.bool false)], args := [d1, d2] }
  | _ => none }
def FnRefsWrongFalsely : Prop := fnRefsRow.holds Tryd.pinned (OpenSpec.ofChange fnRefsWrong)

/- THE SECOND FORM. 'bulk': how many values and letters a reading holds, each counted each time it is reached (what is shared counts as often as it is met; a slice's spare places count too). A statement '..UptoSaid' is the law's where the arguments, and the package variables that the reading takes, are together of bulk at most 1048576: NARROWER than '..Said'. Prove '..Said' where nothing that the law and all that it calls make is longer than what came in: it says more and counts as full. Else prove '..UptoSaid'. A law counts once. -/
mutual
def uptoBulk {H : Type} : DataW H → Nat
  | .lit (.string bytes) => bytes.length + 1
  | .lit _ => 1
  | .nil => 1
  | .ptr d => uptoBulk d + 1
  | .slice elems spare => uptoBulkAll elems + uptoBulkAll spare + 1
  | .agg parts => uptoBulkAll parts + 1
  | .iface _ d => uptoBulk d + 1
  | .map entries => uptoBulkEntries entries + 1
  | .held _ => 1
def uptoBulkAll {H : Type} : List (DataW H) → Nat
  | [] => 0
  | d :: r => uptoBulk d + uptoBulkAll r
def uptoBulkEntries {H : Type} : List (Lit × DataW H) → Nat
  | [] => 0
  | x :: r => uptoBulkEntry x + uptoBulkEntries r
def uptoBulkEntry {H : Type} : Lit × DataW H → Nat
  | (.string bytes, d) => bytes.length + uptoBulk d + 1
  | (_, d) => uptoBulk d + 1
 end
def uptoSmall : (H : Type) → List (DataW H) → Bool := fun _ ds => decide (uptoBulkAll ds ≤ 1048576)
def OpenSpec.upto (s : _root_.Go.ChangeSpec) : _root_.Go.OpenSpec := { _root_.Go.OpenSpec.ofChange s with cond := some uptoSmall }

/-- 'laws.FnExactRepoOk', WHERE WHAT IT READS IS OF BULK AT MOST 1048576: true; the input reads as it did. -/
def fnExactRepoOkUptoRow : OpenClaim := { program := "ytldpdaifajjaeaadoor", sum := "80189910393ac2c53e5b8f1e4baa0e343b4fbc6ca473e0f5c4696586cc362c3a", func := "loop.example/g00141/laws.FnExactRepoOk", spec := "fnExactRepoOk", inPlace := ["internal/bytealg.CountString", "internal/bytealg.IndexByteString", "internal/bytealg.IndexString"], named := ["unicode/utf8.first", "unicode/utf8.acceptRanges", "internal/bytealg.MaxLen"], apart := false, laid := [("unicode/utf8.acceptRanges", laid_unicode_utf8_acceptRanges), ("unicode/utf8.first", laid_unicode_utf8_first)], narrowed := true }
def FnExactRepoOkUptoSaid : Prop := fnExactRepoOkUptoRow.holds Tryd.pinned (OpenSpec.upto fnExactRepoOkSpec)

/-- 'laws.FnExactWriteRef', WHERE WHAT IT READS IS OF BULK AT MOST 1048576: true; the input reads as it did. -/
def fnExactWriteRefUptoRow : OpenClaim := { program := "ytldpdaifajjaeaadoor", sum := "80189910393ac2c53e5b8f1e4baa0e343b4fbc6ca473e0f5c4696586cc362c3a", func := "loop.example/g00141/laws.FnExactWriteRef", spec := "fnExactWriteRef", inPlace := ["internal/bytealg.CountString", "internal/bytealg.IndexByteString", "internal/bytealg.IndexString"], named := ["unicode/utf8.first", "unicode/utf8.acceptRanges", "internal/bytealg.MaxLen"], apart := false, laid := [("unicode/utf8.acceptRanges", laid_unicode_utf8_acceptRanges), ("unicode/utf8.first", laid_unicode_utf8_first)], narrowed := true }
def FnExactWriteRefUptoSaid : Prop := fnExactWriteRefUptoRow.holds Tryd.pinned (OpenSpec.upto fnExactWriteRefSpec)

/-- 'laws.FnExactReadRef', WHERE WHAT IT READS IS OF BULK AT MOST 1048576: true; the input reads as it did. -/
def fnExactReadRefUptoRow : OpenClaim := { program := "ytldpdaifajjaeaadoor", sum := "80189910393ac2c53e5b8f1e4baa0e343b4fbc6ca473e0f5c4696586cc362c3a", func := "loop.example/g00141/laws.FnExactReadRef", spec := "fnExactReadRef", inPlace := ["internal/bytealg.IndexByteString", "internal/bytealg.IndexString", "internal/bytealg.CountString"], named := ["internal/bytealg.MaxLen", "unicode/utf8.first", "unicode/utf8.acceptRanges"], apart := false, laid := [("unicode/utf8.acceptRanges", laid_unicode_utf8_acceptRanges), ("unicode/utf8.first", laid_unicode_utf8_first)], narrowed := true }
def FnExactReadRefUptoSaid : Prop := fnExactReadRefUptoRow.holds Tryd.pinned (OpenSpec.upto fnExactReadRefSpec)

/-- 'laws.FnExactReadManifest', WHERE WHAT IT READS IS OF BULK AT MOST 1048576: true; the input reads as it did. -/
def fnExactReadManifestUptoRow : OpenClaim := { program := "ytldpdaifajjaeaadoor", sum := "80189910393ac2c53e5b8f1e4baa0e343b4fbc6ca473e0f5c4696586cc362c3a", func := "loop.example/g00141/laws.FnExactReadManifest", spec := "fnExactReadManifest", inPlace := ["internal/bytealg.CountString", "internal/bytealg.IndexByteString", "internal/bytealg.IndexString"], unfollowed := true, recurses := true, named := ["unicode/utf8.first", "unicode/utf8.acceptRanges", "internal/bytealg.MaxLen"], apart := false, laid := [("unicode/utf8.acceptRanges", laid_unicode_utf8_acceptRanges), ("unicode/utf8.first", laid_unicode_utf8_first)], narrowed := true }
def FnExactReadManifestUptoSaid : Prop := fnExactReadManifestUptoRow.holds Tryd.pinned (OpenSpec.upto fnExactReadManifestSpec)

/-- 'laws.FnRefs', WHERE WHAT IT READS IS OF BULK AT MOST 1048576: true; the input reads as it did. -/
def fnRefsUptoRow : OpenClaim := { program := "ytldpdaifajjaeaadoor", sum := "80189910393ac2c53e5b8f1e4baa0e343b4fbc6ca473e0f5c4696586cc362c3a", func := "loop.example/g00141/laws.FnRefs", spec := "fnRefs", inPlace := ["internal/bytealg.CountString", "internal/bytealg.IndexByteString", "internal/bytealg.IndexString"], named := ["unicode/utf8.first", "unicode/utf8.acceptRanges", "internal/bytealg.MaxLen"], apart := false, laid := [("unicode/utf8.acceptRanges", laid_unicode_utf8_acceptRanges), ("unicode/utf8.first", laid_unicode_utf8_first)], narrowed := true }
def FnRefsUptoSaid : Prop := fnRefsUptoRow.holds Tryd.pinned (OpenSpec.upto fnRefsSpec)

end Rows
end Go.Proofs.YtldpdaifajjaeaaDoor
