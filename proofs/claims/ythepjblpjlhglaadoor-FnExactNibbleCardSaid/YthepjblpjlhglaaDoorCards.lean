/-
  DERIVED. GIVEN WITH THE SEED: THE CARDS: each row of YthepjblpjlhglaaDoorRows.lean that lists a variable, with what it lists TIED to the program's text (the seventh form; the later family's looks); each row that meets fmt, with fmt's text TOLD by the authors' own Lean function (tested against real Go, not proved from fmt's source: count such statements apart). THE CARD IS WHAT COUNTS. Prove the row's statement (the work); the ties are given (YthepjblpjlhglaaDoorTie.lean); close each card by the builder's one call (the guide's Derived/Test/ToyasCard.lean, 'card_holds'). Laid BY PROGRAM, IN A SANDBOX (cutbox-door.mjs). By AI agents, Wed Nov 11 2026. No macro, syntax, notation, axiom, sorry.
-/
import Derived.Test.YthepjblpjlhglaaDoorRows
import GoSem.ClaimSeven
namespace Go.Proofs.YthepjblpjlhglaaDoor
namespace Rows

/-- THE TIED CARD OF 'laws.FnExactDigestOk'. -/
def fnExactDigestOkCard : Claim7 := { stood := { row := fnExactDigestOkRow, standIns := [], harness := (true, "9876897cf2495ac03aeeb9a396a84dbd55fc61c2401e6bf58969ab2a472621ea"), looks := false }, kinds := [], alts := [], laidByText := true, laidKinds := [.data, .pinned], laidTests := true, laidLooks := .later }
def FnExactDigestOkCardSaid : Prop := Claim7.holds Tryd.pinned (.plain (OpenSpec.ofChange fnExactDigestOkSpec)) fnExactDigestOkCard

/-- THE TIED CARD OF 'laws.FnExactNibble'. -/
def fnExactNibbleCard : Claim7 := { stood := { row := fnExactNibbleRow, standIns := [], harness := (true, "9876897cf2495ac03aeeb9a396a84dbd55fc61c2401e6bf58969ab2a472621ea"), looks := false }, kinds := [], alts := [], laidByText := true, laidKinds := [.data, .pinned], laidTests := true, laidLooks := .later }
def FnExactNibbleCardSaid : Prop := Claim7.holds Tryd.pinned (.plain (OpenSpec.ofChange fnExactNibbleSpec)) fnExactNibbleCard

/-- THE TIED CARD OF 'laws.FnExactRepoOk'. -/
def fnExactRepoOkCard : Claim7 := { stood := { row := fnExactRepoOkRow, standIns := [], harness := (true, "9876897cf2495ac03aeeb9a396a84dbd55fc61c2401e6bf58969ab2a472621ea"), looks := false }, kinds := [], alts := [], laidByText := true, laidKinds := [.data, .pinned], laidTests := true, laidLooks := .later }
def FnExactRepoOkCardSaid : Prop := Claim7.holds Tryd.pinned (.plain (OpenSpec.ofChange fnExactRepoOkSpec)) fnExactRepoOkCard

/-- THE TIED CARD OF 'laws.FnExactWriteManifest'. -/
def fnExactWriteManifestCard : Claim7 := { stood := { row := fnExactWriteManifestRow, standIns := [], harness := (true, "9876897cf2495ac03aeeb9a396a84dbd55fc61c2401e6bf58969ab2a472621ea"), looks := false }, kinds := [], alts := [], laidByText := true, laidKinds := [.data, .pinned], laidTests := true, laidLooks := .later }
def FnExactWriteManifestCardSaid : Prop := Claim7.holds Tryd.pinned (.plain (OpenSpec.ofChange fnExactWriteManifestSpec)) fnExactWriteManifestCard

/-- THE TIED CARD OF 'laws.FnExactReadManifest'. -/
def fnExactReadManifestCard : Claim7 := { stood := { row := fnExactReadManifestRow, standIns := [], harness := (true, "9876897cf2495ac03aeeb9a396a84dbd55fc61c2401e6bf58969ab2a472621ea"), looks := false }, kinds := [], alts := [], laidByText := true, laidKinds := [.data, .pinned], laidTests := true, laidLooks := .later }
def FnExactReadManifestCardSaid : Prop := Claim7.holds Tryd.pinned (.plain (OpenSpec.ofChange fnExactReadManifestSpec)) fnExactReadManifestCard

/-- THE TIED CARD OF 'laws.FnExactBlobsOf'. -/
def fnExactBlobsOfCard : Claim7 := { stood := { row := fnExactBlobsOfRow, standIns := [], harness := (true, "9876897cf2495ac03aeeb9a396a84dbd55fc61c2401e6bf58969ab2a472621ea"), looks := false }, kinds := [], alts := [], laidByText := true, laidKinds := [.data, .pinned], laidTests := true, laidLooks := .later }
def FnExactBlobsOfCardSaid : Prop := Claim7.holds Tryd.pinned (.plain (OpenSpec.ofChange fnExactBlobsOfSpec)) fnExactBlobsOfCard

/-- THE TIED CARD OF 'laws.FnExactWriteRef'. -/
def fnExactWriteRefCard : Claim7 := { stood := { row := fnExactWriteRefRow, standIns := [], harness := (true, "9876897cf2495ac03aeeb9a396a84dbd55fc61c2401e6bf58969ab2a472621ea"), looks := false }, kinds := [], alts := [], laidByText := true, laidKinds := [.data, .pinned], laidTests := true, laidLooks := .later }
def FnExactWriteRefCardSaid : Prop := Claim7.holds Tryd.pinned (.plain (OpenSpec.ofChange fnExactWriteRefSpec)) fnExactWriteRefCard

/-- THE TIED CARD OF 'laws.FnExactReadRef'. -/
def fnExactReadRefCard : Claim7 := { stood := { row := fnExactReadRefRow, standIns := [], harness := (true, "9876897cf2495ac03aeeb9a396a84dbd55fc61c2401e6bf58969ab2a472621ea"), looks := false }, kinds := [], alts := [], laidByText := true, laidKinds := [.data, .pinned], laidTests := true, laidLooks := .later }
def FnExactReadRefCardSaid : Prop := Claim7.holds Tryd.pinned (.plain (OpenSpec.ofChange fnExactReadRefSpec)) fnExactReadRefCard

/-- THE TIED CARD OF 'laws.FnRefs'. -/
def fnRefsCard : Claim7 := { stood := { row := fnRefsRow, standIns := [], harness := (true, "9876897cf2495ac03aeeb9a396a84dbd55fc61c2401e6bf58969ab2a472621ea"), looks := false }, kinds := [], alts := [], laidByText := true, laidKinds := [.data, .pinned], laidTests := true, laidLooks := .later }
def FnRefsCardSaid : Prop := Claim7.holds Tryd.pinned (.plain (OpenSpec.ofChange fnRefsSpec)) fnRefsCard

/-- THE SECOND FORM's CARD OF 'laws.FnExactDigestOk'. -/
def fnExactDigestOkUptoCard : Claim7 := { stood := { row := fnExactDigestOkUptoRow, standIns := [], harness := (true, "9876897cf2495ac03aeeb9a396a84dbd55fc61c2401e6bf58969ab2a472621ea"), looks := false }, kinds := [], alts := [], laidByText := true, laidKinds := [.data, .pinned], laidTests := true, laidLooks := .later }
def FnExactDigestOkUptoCardSaid : Prop := Claim7.holds Tryd.pinned (.plain (OpenSpec.upto fnExactDigestOkSpec)) fnExactDigestOkUptoCard

/-- THE SECOND FORM's CARD OF 'laws.FnExactNibble'. -/
def fnExactNibbleUptoCard : Claim7 := { stood := { row := fnExactNibbleUptoRow, standIns := [], harness := (true, "9876897cf2495ac03aeeb9a396a84dbd55fc61c2401e6bf58969ab2a472621ea"), looks := false }, kinds := [], alts := [], laidByText := true, laidKinds := [.data, .pinned], laidTests := true, laidLooks := .later }
def FnExactNibbleUptoCardSaid : Prop := Claim7.holds Tryd.pinned (.plain (OpenSpec.upto fnExactNibbleSpec)) fnExactNibbleUptoCard

/-- THE SECOND FORM's CARD OF 'laws.FnExactRepoOk'. -/
def fnExactRepoOkUptoCard : Claim7 := { stood := { row := fnExactRepoOkUptoRow, standIns := [], harness := (true, "9876897cf2495ac03aeeb9a396a84dbd55fc61c2401e6bf58969ab2a472621ea"), looks := false }, kinds := [], alts := [], laidByText := true, laidKinds := [.data, .pinned], laidTests := true, laidLooks := .later }
def FnExactRepoOkUptoCardSaid : Prop := Claim7.holds Tryd.pinned (.plain (OpenSpec.upto fnExactRepoOkSpec)) fnExactRepoOkUptoCard

/-- THE SECOND FORM's CARD OF 'laws.FnExactWriteManifest'. -/
def fnExactWriteManifestUptoCard : Claim7 := { stood := { row := fnExactWriteManifestUptoRow, standIns := [], harness := (true, "9876897cf2495ac03aeeb9a396a84dbd55fc61c2401e6bf58969ab2a472621ea"), looks := false }, kinds := [], alts := [], laidByText := true, laidKinds := [.data, .pinned], laidTests := true, laidLooks := .later }
def FnExactWriteManifestUptoCardSaid : Prop := Claim7.holds Tryd.pinned (.plain (OpenSpec.upto fnExactWriteManifestSpec)) fnExactWriteManifestUptoCard

/-- THE SECOND FORM's CARD OF 'laws.FnExactReadManifest'. -/
def fnExactReadManifestUptoCard : Claim7 := { stood := { row := fnExactReadManifestUptoRow, standIns := [], harness := (true, "9876897cf2495ac03aeeb9a396a84dbd55fc61c2401e6bf58969ab2a472621ea"), looks := false }, kinds := [], alts := [], laidByText := true, laidKinds := [.data, .pinned], laidTests := true, laidLooks := .later }
def FnExactReadManifestUptoCardSaid : Prop := Claim7.holds Tryd.pinned (.plain (OpenSpec.upto fnExactReadManifestSpec)) fnExactReadManifestUptoCard

/-- THE SECOND FORM's CARD OF 'laws.FnExactBlobsOf'. -/
def fnExactBlobsOfUptoCard : Claim7 := { stood := { row := fnExactBlobsOfUptoRow, standIns := [], harness := (true, "9876897cf2495ac03aeeb9a396a84dbd55fc61c2401e6bf58969ab2a472621ea"), looks := false }, kinds := [], alts := [], laidByText := true, laidKinds := [.data, .pinned], laidTests := true, laidLooks := .later }
def FnExactBlobsOfUptoCardSaid : Prop := Claim7.holds Tryd.pinned (.plain (OpenSpec.upto fnExactBlobsOfSpec)) fnExactBlobsOfUptoCard

/-- THE SECOND FORM's CARD OF 'laws.FnExactWriteRef'. -/
def fnExactWriteRefUptoCard : Claim7 := { stood := { row := fnExactWriteRefUptoRow, standIns := [], harness := (true, "9876897cf2495ac03aeeb9a396a84dbd55fc61c2401e6bf58969ab2a472621ea"), looks := false }, kinds := [], alts := [], laidByText := true, laidKinds := [.data, .pinned], laidTests := true, laidLooks := .later }
def FnExactWriteRefUptoCardSaid : Prop := Claim7.holds Tryd.pinned (.plain (OpenSpec.upto fnExactWriteRefSpec)) fnExactWriteRefUptoCard

/-- THE SECOND FORM's CARD OF 'laws.FnExactReadRef'. -/
def fnExactReadRefUptoCard : Claim7 := { stood := { row := fnExactReadRefUptoRow, standIns := [], harness := (true, "9876897cf2495ac03aeeb9a396a84dbd55fc61c2401e6bf58969ab2a472621ea"), looks := false }, kinds := [], alts := [], laidByText := true, laidKinds := [.data, .pinned], laidTests := true, laidLooks := .later }
def FnExactReadRefUptoCardSaid : Prop := Claim7.holds Tryd.pinned (.plain (OpenSpec.upto fnExactReadRefSpec)) fnExactReadRefUptoCard

/-- THE SECOND FORM's CARD OF 'laws.FnRefs'. -/
def fnRefsUptoCard : Claim7 := { stood := { row := fnRefsUptoRow, standIns := [], harness := (true, "9876897cf2495ac03aeeb9a396a84dbd55fc61c2401e6bf58969ab2a472621ea"), looks := false }, kinds := [], alts := [], laidByText := true, laidKinds := [.data, .pinned], laidTests := true, laidLooks := .later }
def FnRefsUptoCardSaid : Prop := Claim7.holds Tryd.pinned (.plain (OpenSpec.upto fnRefsSpec)) fnRefsUptoCard
end Rows
end Go.Proofs.YthepjblpjlhglaaDoor
