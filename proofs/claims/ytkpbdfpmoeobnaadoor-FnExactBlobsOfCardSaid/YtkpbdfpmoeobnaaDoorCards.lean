/-
  DERIVED. GIVEN WITH THE SEED: THE CARDS: each row of YtkpbdfpmoeobnaaDoorRows.lean that lists a variable, with what it lists TIED to the program's text (the seventh form; the later family's looks); each row that meets fmt, with fmt's text TOLD by the authors' own Lean function (tested against real Go, not proved from fmt's source: count such statements apart). THE CARD IS WHAT COUNTS. Prove the row's statement (the work); the ties are given (YtkpbdfpmoeobnaaDoorTie.lean); close each card by the builder's one call (the guide's Derived/Test/ToyasCard.lean, 'card_holds'). Laid BY PROGRAM, IN A SANDBOX (cutbox-door.mjs). By AI agents, Wed Nov 11 2026. No macro, syntax, notation, axiom, sorry.
-/
import Derived.Test.YtkpbdfpmoeobnaaDoorRows
import GoSem.ClaimSeven
namespace Go.Proofs.YtkpbdfpmoeobnaaDoor
namespace Rows

/-- THE TIED CARD OF 'laws.FnExactWriteManifest'. -/
def fnExactWriteManifestCard : Claim7 := { stood := { row := fnExactWriteManifestRow, standIns := [], harness := (true, "56fc5995e471232cfb6534a8b7a18765b283c7420231e4822dc6556633849198"), looks := false }, kinds := [], alts := [], laidByText := true, laidKinds := [.data, .pinned], laidTests := true, laidLooks := .later }
def FnExactWriteManifestCardSaid : Prop := Claim7.holds Tryd.pinned (.plain (OpenSpec.ofChange fnExactWriteManifestSpec)) fnExactWriteManifestCard

/-- THE TIED CARD OF 'laws.FnExactBlobsOf'. -/
def fnExactBlobsOfCard : Claim7 := { stood := { row := fnExactBlobsOfRow, standIns := [], harness := (true, "56fc5995e471232cfb6534a8b7a18765b283c7420231e4822dc6556633849198"), looks := false }, kinds := [], alts := [], laidByText := true, laidKinds := [.data, .pinned], laidTests := true, laidLooks := .later }
def FnExactBlobsOfCardSaid : Prop := Claim7.holds Tryd.pinned (.plain (OpenSpec.ofChange fnExactBlobsOfSpec)) fnExactBlobsOfCard

/-- THE SECOND FORM's CARD OF 'laws.FnExactWriteManifest'. -/
def fnExactWriteManifestUptoCard : Claim7 := { stood := { row := fnExactWriteManifestUptoRow, standIns := [], harness := (true, "56fc5995e471232cfb6534a8b7a18765b283c7420231e4822dc6556633849198"), looks := false }, kinds := [], alts := [], laidByText := true, laidKinds := [.data, .pinned], laidTests := true, laidLooks := .later }
def FnExactWriteManifestUptoCardSaid : Prop := Claim7.holds Tryd.pinned (.plain (OpenSpec.upto fnExactWriteManifestSpec)) fnExactWriteManifestUptoCard

/-- THE SECOND FORM's CARD OF 'laws.FnExactBlobsOf'. -/
def fnExactBlobsOfUptoCard : Claim7 := { stood := { row := fnExactBlobsOfUptoRow, standIns := [], harness := (true, "56fc5995e471232cfb6534a8b7a18765b283c7420231e4822dc6556633849198"), looks := false }, kinds := [], alts := [], laidByText := true, laidKinds := [.data, .pinned], laidTests := true, laidLooks := .later }
def FnExactBlobsOfUptoCardSaid : Prop := Claim7.holds Tryd.pinned (.plain (OpenSpec.upto fnExactBlobsOfSpec)) fnExactBlobsOfUptoCard
end Rows
end Go.Proofs.YtkpbdfpmoeobnaaDoor
