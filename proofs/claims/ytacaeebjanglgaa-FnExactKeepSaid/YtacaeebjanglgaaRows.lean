/-
  No cell of these rows narrows 'for every input' (looked for: loops, veiled, ifaces, maps, wideKeys, modest, calm, conditions, laid).
  DERIVED. THE GIVEN ROWS OF THIS SEAT. 12 by the template 'for every input the law returns true; each argument reads behind the call as it read before'; 0 by the template 'total and deterministic' (their statements: YtacaeebjanglgaaTotals.lean).
  GIVEN WITH THE SEED: the statements are not yours to turn. If you find one false, say at which input.
  Laid BY PROGRAM, IN A SANDBOX (cutbox-rows.mjs): the forced cells as the released guide's own fill.sh prints them over the translation a883827c19067a12… (all of the seat's roots in one cut). By AI agents, Wed Nov 11 2026. No macro, syntax, notation, axiom, sorry.
-/
import Derived.Test.YtacaeebjanglgaaChecked
import GoSem.Claim
import GoSem.ClaimJoined
import GoSem.ClaimMapViews
import Derived.JoinedTies
import Derived.KernelRfl
namespace Go.Proofs.Ytacaeebjanglgaa
/- THE CELL 'sum', in the pinned program and in every row, IS THE sha256 OF THE DUMP (.gsa) THAT YtacaeebjanglgaaProg.lean LOADS. Nothing in Lean hashes anything: it is a label: what it is worth is what the hold of that sum in a sandbox is worth. -/
noncomputable def Try.pinned : Pinned := { name := "ytacaeebjanglgaa", sum := "a883827c19067a124bb1d346420afd531c0f2788f882ce5f53167711cb9357b8", checked := Try.checked }
namespace Rows
def none {H : Type} : Left H := { results := [], args := [] }

/-- 'laws.FnExactStoreOk': WHATEVER THE INPUT: true; the input reads as it did. -/
def fnExactStoreOkSpec : ChangeSpec := { name := "fnExactStoreOk", fn := fun _ => fun
  | [d] => { results := [.lit (.bool true)], args := [d] }
  | _ => none }
def fnExactStoreOkRow : OpenClaim := { program := "ytacaeebjanglgaa", sum := "a883827c19067a124bb1d346420afd531c0f2788f882ce5f53167711cb9357b8", func := "loop.example/g00141/laws.FnExactStoreOk", spec := "fnExactStoreOk", named := ["encoding/binary.BigEndian"], apart := false }
def FnExactStoreOkSaid : Prop := fnExactStoreOkRow.holds Try.pinned (OpenSpec.ofChange fnExactStoreOkSpec)

/-- ITS FALSE NEIGHBOUR: 'it returns false'. Refute it at one input. -/
def fnExactStoreOkWrong : ChangeSpec := { name := "fnExactStoreOk", fn := fun _ => fun
  | [d] => { results := [.lit (.bool false)], args := [d] }
  | _ => none }
def FnExactStoreOkWrongFalsely : Prop := fnExactStoreOkRow.holds Try.pinned (OpenSpec.ofChange fnExactStoreOkWrong)

/-- 'laws.FnExactUsedBy': WHATEVER THE INPUT: true; the input reads as it did. -/
def fnExactUsedBySpec : ChangeSpec := { name := "fnExactUsedBy", fn := fun _ => fun
  | [d] => { results := [.lit (.bool true)], args := [d] }
  | _ => none }
def fnExactUsedByRow : OpenClaim := { program := "ytacaeebjanglgaa", sum := "a883827c19067a124bb1d346420afd531c0f2788f882ce5f53167711cb9357b8", func := "loop.example/g00141/laws.FnExactUsedBy", spec := "fnExactUsedBy", named := ["encoding/binary.BigEndian"], apart := false }
def FnExactUsedBySaid : Prop := fnExactUsedByRow.holds Try.pinned (OpenSpec.ofChange fnExactUsedBySpec)

/-- ITS FALSE NEIGHBOUR: 'it returns false'. Refute it at one input. -/
def fnExactUsedByWrong : ChangeSpec := { name := "fnExactUsedBy", fn := fun _ => fun
  | [d] => { results := [.lit (.bool false)], args := [d] }
  | _ => none }
def FnExactUsedByWrongFalsely : Prop := fnExactUsedByRow.holds Try.pinned (OpenSpec.ofChange fnExactUsedByWrong)

/-- 'laws.FnExactGetBlob': WHATEVER THE INPUT: true; the input reads as it did. -/
def fnExactGetBlobSpec : ChangeSpec := { name := "fnExactGetBlob", fn := fun _ => fun
  | [d1, d2] => { results := [.lit (.bool true)], args := [d1, d2] }
  | _ => none }
def fnExactGetBlobRow : OpenClaim := { program := "ytacaeebjanglgaa", sum := "a883827c19067a124bb1d346420afd531c0f2788f882ce5f53167711cb9357b8", func := "loop.example/g00141/laws.FnExactGetBlob", spec := "fnExactGetBlob", inPlace := ["internal/bytealg.abigen_runtime_cmpstring"], unfollowed := true, recurses := true, named := ["encoding/binary.BigEndian"], apart := false }
def FnExactGetBlobSaid : Prop := fnExactGetBlobRow.holds Try.pinned (OpenSpec.ofChange fnExactGetBlobSpec)

/-- ITS FALSE NEIGHBOUR: 'it returns false'. Refute it at one input. -/
def fnExactGetBlobWrong : ChangeSpec := { name := "fnExactGetBlob", fn := fun _ => fun
  | [d1, d2] => { results := [.lit (.bool false)], args := [d1, d2] }
  | _ => none }
def FnExactGetBlobWrongFalsely : Prop := fnExactGetBlobRow.holds Try.pinned (OpenSpec.ofChange fnExactGetBlobWrong)

/-- 'laws.FnExactDigestsOf': WHATEVER THE INPUT: true; the input reads as it did. -/
def fnExactDigestsOfSpec : ChangeSpec := { name := "fnExactDigestsOf", fn := fun _ => fun
  | [d] => { results := [.lit (.bool true)], args := [d] }
  | _ => none }
def fnExactDigestsOfRow : OpenClaim := { program := "ytacaeebjanglgaa", sum := "a883827c19067a124bb1d346420afd531c0f2788f882ce5f53167711cb9357b8", func := "loop.example/g00141/laws.FnExactDigestsOf", spec := "fnExactDigestsOf", named := ["encoding/binary.BigEndian"], apart := false }
def FnExactDigestsOfSaid : Prop := fnExactDigestsOfRow.holds Try.pinned (OpenSpec.ofChange fnExactDigestsOfSpec)

/-- ITS FALSE NEIGHBOUR: 'it returns false'. Refute it at one input. -/
def fnExactDigestsOfWrong : ChangeSpec := { name := "fnExactDigestsOf", fn := fun _ => fun
  | [d] => { results := [.lit (.bool false)], args := [d] }
  | _ => none }
def FnExactDigestsOfWrongFalsely : Prop := fnExactDigestsOfRow.holds Try.pinned (OpenSpec.ofChange fnExactDigestsOfWrong)

/-- 'laws.FnExactBegin': WHATEVER THE INPUT: true; the input reads as it did. -/
def fnExactBeginSpec : ChangeSpec := { name := "fnExactBegin", fn := fun _ => fun
  | [d] => { results := [.lit (.bool true)], args := [d] }
  | _ => none }
def fnExactBeginRow : OpenClaim := { program := "ytacaeebjanglgaa", sum := "a883827c19067a124bb1d346420afd531c0f2788f882ce5f53167711cb9357b8", func := "loop.example/g00141/laws.FnExactBegin", spec := "fnExactBegin", named := ["encoding/binary.BigEndian"], apart := false }
def FnExactBeginSaid : Prop := fnExactBeginRow.holds Try.pinned (OpenSpec.ofChange fnExactBeginSpec)

/-- ITS FALSE NEIGHBOUR: 'it returns false'. Refute it at one input. -/
def fnExactBeginWrong : ChangeSpec := { name := "fnExactBegin", fn := fun _ => fun
  | [d] => { results := [.lit (.bool false)], args := [d] }
  | _ => none }
def FnExactBeginWrongFalsely : Prop := fnExactBeginRow.holds Try.pinned (OpenSpec.ofChange fnExactBeginWrong)

/-- 'laws.FnExactAbort': WHATEVER THE INPUT: true; the input reads as it did. -/
def fnExactAbortSpec : ChangeSpec := { name := "fnExactAbort", fn := fun _ => fun
  | [d1, d2] => { results := [.lit (.bool true)], args := [d1, d2] }
  | _ => none }
def fnExactAbortRow : OpenClaim := { program := "ytacaeebjanglgaa", sum := "a883827c19067a124bb1d346420afd531c0f2788f882ce5f53167711cb9357b8", func := "loop.example/g00141/laws.FnExactAbort", spec := "fnExactAbort", unfollowed := true, recurses := true, named := ["encoding/binary.BigEndian"], apart := false }
def FnExactAbortSaid : Prop := fnExactAbortRow.holds Try.pinned (OpenSpec.ofChange fnExactAbortSpec)

/-- ITS FALSE NEIGHBOUR: 'it returns false'. Refute it at one input. -/
def fnExactAbortWrong : ChangeSpec := { name := "fnExactAbort", fn := fun _ => fun
  | [d1, d2] => { results := [.lit (.bool false)], args := [d1, d2] }
  | _ => none }
def FnExactAbortWrongFalsely : Prop := fnExactAbortRow.holds Try.pinned (OpenSpec.ofChange fnExactAbortWrong)

/-- 'laws.FnExactChunk': WHATEVER THE INPUT: true; the input reads as it did. -/
def fnExactChunkSpec : ChangeSpec := { name := "fnExactChunk", fn := fun _ => fun
  | [d1, d2, d3, d4] => { results := [.lit (.bool true)], args := [d1, d2, d3, d4] }
  | _ => none }
def fnExactChunkRow : OpenClaim := { program := "ytacaeebjanglgaa", sum := "a883827c19067a124bb1d346420afd531c0f2788f882ce5f53167711cb9357b8", func := "loop.example/g00141/laws.FnExactChunk", spec := "fnExactChunk", unfollowed := true, recurses := true, named := ["encoding/binary.BigEndian"], apart := false }
def FnExactChunkSaid : Prop := fnExactChunkRow.holds Try.pinned (OpenSpec.ofChange fnExactChunkSpec)

/-- ITS FALSE NEIGHBOUR: 'it returns false'. Refute it at one input. -/
def fnExactChunkWrong : ChangeSpec := { name := "fnExactChunk", fn := fun _ => fun
  | [d1, d2, d3, d4] => { results := [.lit (.bool false)], args := [d1, d2, d3, d4] }
  | _ => none }
def FnExactChunkWrongFalsely : Prop := fnExactChunkRow.holds Try.pinned (OpenSpec.ofChange fnExactChunkWrong)

/-- 'laws.FnExactDropBlob': WHATEVER THE INPUT: true; the input reads as it did. -/
def fnExactDropBlobSpec : ChangeSpec := { name := "fnExactDropBlob", fn := fun _ => fun
  | [d1, d2] => { results := [.lit (.bool true)], args := [d1, d2] }
  | _ => none }
def fnExactDropBlobRow : OpenClaim := { program := "ytacaeebjanglgaa", sum := "a883827c19067a124bb1d346420afd531c0f2788f882ce5f53167711cb9357b8", func := "loop.example/g00141/laws.FnExactDropBlob", spec := "fnExactDropBlob", inPlace := ["internal/bytealg.abigen_runtime_cmpstring"], unfollowed := true, recurses := true, named := ["encoding/binary.BigEndian"], apart := false }
def FnExactDropBlobSaid : Prop := fnExactDropBlobRow.holds Try.pinned (OpenSpec.ofChange fnExactDropBlobSpec)

/-- ITS FALSE NEIGHBOUR: 'it returns false'. Refute it at one input. -/
def fnExactDropBlobWrong : ChangeSpec := { name := "fnExactDropBlob", fn := fun _ => fun
  | [d1, d2] => { results := [.lit (.bool false)], args := [d1, d2] }
  | _ => none }
def FnExactDropBlobWrongFalsely : Prop := fnExactDropBlobRow.holds Try.pinned (OpenSpec.ofChange fnExactDropBlobWrong)

/-- 'laws.FnExactFinish': WHATEVER THE INPUT: true; the input reads as it did. -/
def fnExactFinishSpec : ChangeSpec := { name := "fnExactFinish", fn := fun _ => fun
  | [d1, d2, d3] => { results := [.lit (.bool true)], args := [d1, d2, d3] }
  | _ => none }
def fnExactFinishRow : OpenClaim := { program := "ytacaeebjanglgaa", sum := "a883827c19067a124bb1d346420afd531c0f2788f882ce5f53167711cb9357b8", func := "loop.example/g00141/laws.FnExactFinish", spec := "fnExactFinish", inPlace := ["internal/bytealg.abigen_runtime_cmpstring", "slices.overlaps[loop.example/g00141/impl.Blob]"], unfollowed := true, recurses := true, named := ["encoding/binary.BigEndian"], apart := false }
def FnExactFinishSaid : Prop := fnExactFinishRow.holds Try.pinned (OpenSpec.ofChange fnExactFinishSpec)

/-- ITS FALSE NEIGHBOUR: 'it returns false'. Refute it at one input. -/
def fnExactFinishWrong : ChangeSpec := { name := "fnExactFinish", fn := fun _ => fun
  | [d1, d2, d3] => { results := [.lit (.bool false)], args := [d1, d2, d3] }
  | _ => none }
def FnExactFinishWrongFalsely : Prop := fnExactFinishRow.holds Try.pinned (OpenSpec.ofChange fnExactFinishWrong)

/-- 'laws.FnExactKeep': WHATEVER THE INPUT: true; the input reads as it did. -/
def fnExactKeepSpec : ChangeSpec := { name := "fnExactKeep", fn := fun _ => fun
  | [d1, d2] => { results := [.lit (.bool true)], args := [d1, d2] }
  | _ => none }
def fnExactKeepRow : OpenClaim := { program := "ytacaeebjanglgaa", sum := "a883827c19067a124bb1d346420afd531c0f2788f882ce5f53167711cb9357b8", func := "loop.example/g00141/laws.FnExactKeep", spec := "fnExactKeep", inPlace := ["internal/bytealg.abigen_runtime_cmpstring", "slices.overlaps[loop.example/g00141/impl.Blob]"], unfollowed := true, recurses := true, named := ["encoding/binary.BigEndian"], apart := false }
def FnExactKeepSaid : Prop := fnExactKeepRow.holds Try.pinned (OpenSpec.ofChange fnExactKeepSpec)

/-- ITS FALSE NEIGHBOUR: 'it returns false'. Refute it at one input. -/
def fnExactKeepWrong : ChangeSpec := { name := "fnExactKeep", fn := fun _ => fun
  | [d1, d2] => { results := [.lit (.bool false)], args := [d1, d2] }
  | _ => none }
def FnExactKeepWrongFalsely : Prop := fnExactKeepRow.holds Try.pinned (OpenSpec.ofChange fnExactKeepWrong)

/-- 'laws.FnKept': WHATEVER THE INPUT: true; the input reads as it did. -/
def fnKeptSpec : ChangeSpec := { name := "fnKept", fn := fun _ => fun
  | [d] => { results := [.lit (.bool true)], args := [d] }
  | _ => none }
def fnKeptRow : OpenClaim := { program := "ytacaeebjanglgaa", sum := "a883827c19067a124bb1d346420afd531c0f2788f882ce5f53167711cb9357b8", func := "loop.example/g00141/laws.FnKept", spec := "fnKept", inPlace := ["internal/bytealg.abigen_runtime_cmpstring", "slices.overlaps[loop.example/g00141/impl.Blob]"], unfollowed := true, recurses := true, named := ["encoding/binary.BigEndian"], apart := false }
def FnKeptSaid : Prop := fnKeptRow.holds Try.pinned (OpenSpec.ofChange fnKeptSpec)

/-- ITS FALSE NEIGHBOUR: 'it returns false'. Refute it at one input. -/
def fnKeptWrong : ChangeSpec := { name := "fnKept", fn := fun _ => fun
  | [d] => { results := [.lit (.bool false)], args := [d] }
  | _ => none }
def FnKeptWrongFalsely : Prop := fnKeptRow.holds Try.pinned (OpenSpec.ofChange fnKeptWrong)

/-- 'laws.FnChunked': WHATEVER THE INPUT: true; the input reads as it did. -/
def fnChunkedSpec : ChangeSpec := { name := "fnChunked", fn := fun _ => fun
  | [d] => { results := [.lit (.bool true)], args := [d] }
  | _ => none }
def fnChunkedRow : OpenClaim := { program := "ytacaeebjanglgaa", sum := "a883827c19067a124bb1d346420afd531c0f2788f882ce5f53167711cb9357b8", func := "loop.example/g00141/laws.FnChunked", spec := "fnChunked", inPlace := ["internal/bytealg.abigen_runtime_cmpstring", "slices.overlaps[loop.example/g00141/impl.Blob]"], unfollowed := true, recurses := true, named := ["encoding/binary.BigEndian"], apart := false }
def FnChunkedSaid : Prop := fnChunkedRow.holds Try.pinned (OpenSpec.ofChange fnChunkedSpec)

/-- ITS FALSE NEIGHBOUR: 'it returns false'. Refute it at one input. -/
def fnChunkedWrong : ChangeSpec := { name := "fnChunked", fn := fun _ => fun
  | [d] => { results := [.lit (.bool false)], args := [d] }
  | _ => none }
def FnChunkedWrongFalsely : Prop := fnChunkedRow.holds Try.pinned (OpenSpec.ofChange fnChunkedWrong)

/- THE SECOND FORM. 'bulk': how many values and letters a reading holds, each counted each time it is reached (what is shared counts as often as it is met; a slice's spare places count too). A statement '..UptoSaid' is the law's where the arguments, and the package variables that the reading takes, are together of bulk at most 1048576: NARROWER than '..Said'. Prove '..Said' where nothing that the law and all that it calls make is longer than what came in: it says more and counts as full. Else prove '..UptoSaid'. A law counts once. -/
mutual
def uptoBulk {H : Type} : DataW H → Nat
  | .lit (.string bytes) => bytes.length + 1
  | .lit _ => 1
  | .nil => 1
  | .ptr d => uptoBulk d + 1
  | .slice elems spare => uptoBulkAll elems + uptoBulkAll spare + 1
  | .agg parts => uptoBulkAll parts + 1
  | .iface _ d => uptoBulk d + 1
  | .map entries => uptoBulkEntries entries + 1
  | .held _ => 1
def uptoBulkAll {H : Type} : List (DataW H) → Nat
  | [] => 0
  | d :: r => uptoBulk d + uptoBulkAll r
def uptoBulkEntries {H : Type} : List (Lit × DataW H) → Nat
  | [] => 0
  | x :: r => uptoBulkEntry x + uptoBulkEntries r
def uptoBulkEntry {H : Type} : Lit × DataW H → Nat
  | (.string bytes, d) => bytes.length + uptoBulk d + 1
  | (_, d) => uptoBulk d + 1
 end
def uptoSmall : (H : Type) → List (DataW H) → Bool := fun _ ds => decide (uptoBulkAll ds ≤ 1048576)
def OpenSpec.upto (s : _root_.Go.ChangeSpec) : _root_.Go.OpenSpec := { _root_.Go.OpenSpec.ofChange s with cond := some uptoSmall }

/-- 'laws.FnExactStoreOk', WHERE WHAT IT READS IS OF BULK AT MOST 1048576: true; the input reads as it did. -/
def fnExactStoreOkUptoRow : OpenClaim := { program := "ytacaeebjanglgaa", sum := "a883827c19067a124bb1d346420afd531c0f2788f882ce5f53167711cb9357b8", func := "loop.example/g00141/laws.FnExactStoreOk", spec := "fnExactStoreOk", named := ["encoding/binary.BigEndian"], apart := false, narrowed := true }
def FnExactStoreOkUptoSaid : Prop := fnExactStoreOkUptoRow.holds Try.pinned (OpenSpec.upto fnExactStoreOkSpec)

/-- 'laws.FnExactUsedBy', WHERE WHAT IT READS IS OF BULK AT MOST 1048576: true; the input reads as it did. -/
def fnExactUsedByUptoRow : OpenClaim := { program := "ytacaeebjanglgaa", sum := "a883827c19067a124bb1d346420afd531c0f2788f882ce5f53167711cb9357b8", func := "loop.example/g00141/laws.FnExactUsedBy", spec := "fnExactUsedBy", named := ["encoding/binary.BigEndian"], apart := false, narrowed := true }
def FnExactUsedByUptoSaid : Prop := fnExactUsedByUptoRow.holds Try.pinned (OpenSpec.upto fnExactUsedBySpec)

/-- 'laws.FnExactGetBlob', WHERE WHAT IT READS IS OF BULK AT MOST 1048576: true; the input reads as it did. -/
def fnExactGetBlobUptoRow : OpenClaim := { program := "ytacaeebjanglgaa", sum := "a883827c19067a124bb1d346420afd531c0f2788f882ce5f53167711cb9357b8", func := "loop.example/g00141/laws.FnExactGetBlob", spec := "fnExactGetBlob", inPlace := ["internal/bytealg.abigen_runtime_cmpstring"], unfollowed := true, recurses := true, named := ["encoding/binary.BigEndian"], apart := false, narrowed := true }
def FnExactGetBlobUptoSaid : Prop := fnExactGetBlobUptoRow.holds Try.pinned (OpenSpec.upto fnExactGetBlobSpec)

/-- 'laws.FnExactDigestsOf', WHERE WHAT IT READS IS OF BULK AT MOST 1048576: true; the input reads as it did. -/
def fnExactDigestsOfUptoRow : OpenClaim := { program := "ytacaeebjanglgaa", sum := "a883827c19067a124bb1d346420afd531c0f2788f882ce5f53167711cb9357b8", func := "loop.example/g00141/laws.FnExactDigestsOf", spec := "fnExactDigestsOf", named := ["encoding/binary.BigEndian"], apart := false, narrowed := true }
def FnExactDigestsOfUptoSaid : Prop := fnExactDigestsOfUptoRow.holds Try.pinned (OpenSpec.upto fnExactDigestsOfSpec)

/-- 'laws.FnExactBegin', WHERE WHAT IT READS IS OF BULK AT MOST 1048576: true; the input reads as it did. -/
def fnExactBeginUptoRow : OpenClaim := { program := "ytacaeebjanglgaa", sum := "a883827c19067a124bb1d346420afd531c0f2788f882ce5f53167711cb9357b8", func := "loop.example/g00141/laws.FnExactBegin", spec := "fnExactBegin", named := ["encoding/binary.BigEndian"], apart := false, narrowed := true }
def FnExactBeginUptoSaid : Prop := fnExactBeginUptoRow.holds Try.pinned (OpenSpec.upto fnExactBeginSpec)

/-- 'laws.FnExactAbort', WHERE WHAT IT READS IS OF BULK AT MOST 1048576: true; the input reads as it did. -/
def fnExactAbortUptoRow : OpenClaim := { program := "ytacaeebjanglgaa", sum := "a883827c19067a124bb1d346420afd531c0f2788f882ce5f53167711cb9357b8", func := "loop.example/g00141/laws.FnExactAbort", spec := "fnExactAbort", unfollowed := true, recurses := true, named := ["encoding/binary.BigEndian"], apart := false, narrowed := true }
def FnExactAbortUptoSaid : Prop := fnExactAbortUptoRow.holds Try.pinned (OpenSpec.upto fnExactAbortSpec)

/-- 'laws.FnExactChunk', WHERE WHAT IT READS IS OF BULK AT MOST 1048576: true; the input reads as it did. -/
def fnExactChunkUptoRow : OpenClaim := { program := "ytacaeebjanglgaa", sum := "a883827c19067a124bb1d346420afd531c0f2788f882ce5f53167711cb9357b8", func := "loop.example/g00141/laws.FnExactChunk", spec := "fnExactChunk", unfollowed := true, recurses := true, named := ["encoding/binary.BigEndian"], apart := false, narrowed := true }
def FnExactChunkUptoSaid : Prop := fnExactChunkUptoRow.holds Try.pinned (OpenSpec.upto fnExactChunkSpec)

/-- 'laws.FnExactDropBlob', WHERE WHAT IT READS IS OF BULK AT MOST 1048576: true; the input reads as it did. -/
def fnExactDropBlobUptoRow : OpenClaim := { program := "ytacaeebjanglgaa", sum := "a883827c19067a124bb1d346420afd531c0f2788f882ce5f53167711cb9357b8", func := "loop.example/g00141/laws.FnExactDropBlob", spec := "fnExactDropBlob", inPlace := ["internal/bytealg.abigen_runtime_cmpstring"], unfollowed := true, recurses := true, named := ["encoding/binary.BigEndian"], apart := false, narrowed := true }
def FnExactDropBlobUptoSaid : Prop := fnExactDropBlobUptoRow.holds Try.pinned (OpenSpec.upto fnExactDropBlobSpec)

/-- 'laws.FnExactFinish', WHERE WHAT IT READS IS OF BULK AT MOST 1048576: true; the input reads as it did. -/
def fnExactFinishUptoRow : OpenClaim := { program := "ytacaeebjanglgaa", sum := "a883827c19067a124bb1d346420afd531c0f2788f882ce5f53167711cb9357b8", func := "loop.example/g00141/laws.FnExactFinish", spec := "fnExactFinish", inPlace := ["internal/bytealg.abigen_runtime_cmpstring", "slices.overlaps[loop.example/g00141/impl.Blob]"], unfollowed := true, recurses := true, named := ["encoding/binary.BigEndian"], apart := false, narrowed := true }
def FnExactFinishUptoSaid : Prop := fnExactFinishUptoRow.holds Try.pinned (OpenSpec.upto fnExactFinishSpec)

/-- 'laws.FnExactKeep', WHERE WHAT IT READS IS OF BULK AT MOST 1048576: true; the input reads as it did. -/
def fnExactKeepUptoRow : OpenClaim := { program := "ytacaeebjanglgaa", sum := "a883827c19067a124bb1d346420afd531c0f2788f882ce5f53167711cb9357b8", func := "loop.example/g00141/laws.FnExactKeep", spec := "fnExactKeep", inPlace := ["internal/bytealg.abigen_runtime_cmpstring", "slices.overlaps[loop.example/g00141/impl.Blob]"], unfollowed := true, recurses := true, named := ["encoding/binary.BigEndian"], apart := false, narrowed := true }
def FnExactKeepUptoSaid : Prop := fnExactKeepUptoRow.holds Try.pinned (OpenSpec.upto fnExactKeepSpec)

/-- 'laws.FnKept', WHERE WHAT IT READS IS OF BULK AT MOST 1048576: true; the input reads as it did. -/
def fnKeptUptoRow : OpenClaim := { program := "ytacaeebjanglgaa", sum := "a883827c19067a124bb1d346420afd531c0f2788f882ce5f53167711cb9357b8", func := "loop.example/g00141/laws.FnKept", spec := "fnKept", inPlace := ["internal/bytealg.abigen_runtime_cmpstring", "slices.overlaps[loop.example/g00141/impl.Blob]"], unfollowed := true, recurses := true, named := ["encoding/binary.BigEndian"], apart := false, narrowed := true }
def FnKeptUptoSaid : Prop := fnKeptUptoRow.holds Try.pinned (OpenSpec.upto fnKeptSpec)

/-- 'laws.FnChunked', WHERE WHAT IT READS IS OF BULK AT MOST 1048576: true; the input reads as it did. -/
def fnChunkedUptoRow : OpenClaim := { program := "ytacaeebjanglgaa", sum := "a883827c19067a124bb1d346420afd531c0f2788f882ce5f53167711cb9357b8", func := "loop.example/g00141/laws.FnChunked", spec := "fnChunked", inPlace := ["internal/bytealg.abigen_runtime_cmpstring", "slices.overlaps[loop.example/g00141/impl.Blob]"], unfollowed := true, recurses := true, named := ["encoding/binary.BigEndian"], apart := false, narrowed := true }
def FnChunkedUptoSaid : Prop := fnChunkedUptoRow.holds Try.pinned (OpenSpec.upto fnChunkedSpec)

end Rows
end Go.Proofs.Ytacaeebjanglgaa
