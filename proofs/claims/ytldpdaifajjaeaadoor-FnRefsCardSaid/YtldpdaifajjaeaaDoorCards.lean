/-
  DERIVED. GIVEN WITH THE SEED: THE CARDS: each row of YtldpdaifajjaeaaDoorRows.lean that lists a variable, with what it lists TIED to the program's text (the seventh form; the later family's looks); each row that meets fmt, with fmt's text TOLD by the authors' own Lean function (tested against real Go, not proved from fmt's source: count such statements apart). THE CARD IS WHAT COUNTS. Prove the row's statement (the work); the ties are given (YtldpdaifajjaeaaDoorTie.lean); close each card by the builder's one call (the guide's Derived/Test/ToyasCard.lean, 'card_holds'). Laid BY PROGRAM, IN A SANDBOX (cutbox-door.mjs). By AI agents, Wed Nov 11 2026. No macro, syntax, notation, axiom, sorry.
-/
import Derived.Test.YtldpdaifajjaeaaDoorRows
import GoSem.ClaimSeven
namespace Go.Proofs.YtldpdaifajjaeaaDoor
namespace Rows

/-- THE TIED CARD OF 'laws.FnExactRepoOk'. -/
def fnExactRepoOkCard : Claim7 := { stood := { row := fnExactRepoOkRow, standIns := [], harness := (true, "800e882c718717c3dd208fddd4414e83e4fc30628db171b29dc29b5c4f3feae1"), looks := false }, kinds := [], alts := [], laidByText := true, laidKinds := [.data, .pinned], laidTests := true, laidLooks := .later }
def FnExactRepoOkCardSaid : Prop := Claim7.holds Tryd.pinned (.plain (OpenSpec.ofChange fnExactRepoOkSpec)) fnExactRepoOkCard

/-- THE TIED CARD OF 'laws.FnExactWriteRef'. -/
def fnExactWriteRefCard : Claim7 := { stood := { row := fnExactWriteRefRow, standIns := [], harness := (true, "800e882c718717c3dd208fddd4414e83e4fc30628db171b29dc29b5c4f3feae1"), looks := false }, kinds := [], alts := [], laidByText := true, laidKinds := [.data, .pinned], laidTests := true, laidLooks := .later }
def FnExactWriteRefCardSaid : Prop := Claim7.holds Tryd.pinned (.plain (OpenSpec.ofChange fnExactWriteRefSpec)) fnExactWriteRefCard

/-- THE TIED CARD OF 'laws.FnExactReadRef'. -/
def fnExactReadRefCard : Claim7 := { stood := { row := fnExactReadRefRow, standIns := [], harness := (true, "800e882c718717c3dd208fddd4414e83e4fc30628db171b29dc29b5c4f3feae1"), looks := false }, kinds := [], alts := [], laidByText := true, laidKinds := [.data, .pinned], laidTests := true, laidLooks := .later }
def FnExactReadRefCardSaid : Prop := Claim7.holds Tryd.pinned (.plain (OpenSpec.ofChange fnExactReadRefSpec)) fnExactReadRefCard

/-- THE TIED CARD OF 'laws.FnExactReadManifest'. -/
def fnExactReadManifestCard : Claim7 := { stood := { row := fnExactReadManifestRow, standIns := [], harness := (true, "800e882c718717c3dd208fddd4414e83e4fc30628db171b29dc29b5c4f3feae1"), looks := false }, kinds := [], alts := [], laidByText := true, laidKinds := [.data, .pinned], laidTests := true, laidLooks := .later }
def FnExactReadManifestCardSaid : Prop := Claim7.holds Tryd.pinned (.plain (OpenSpec.ofChange fnExactReadManifestSpec)) fnExactReadManifestCard

/-- THE TIED CARD OF 'laws.FnRefs'. -/
def fnRefsCard : Claim7 := { stood := { row := fnRefsRow, standIns := [], harness := (true, "800e882c718717c3dd208fddd4414e83e4fc30628db171b29dc29b5c4f3feae1"), looks := false }, kinds := [], alts := [], laidByText := true, laidKinds := [.data, .pinned], laidTests := true, laidLooks := .later }
def FnRefsCardSaid : Prop := Claim7.holds Tryd.pinned (.plain (OpenSpec.ofChange fnRefsSpec)) fnRefsCard

/-- THE SECOND FORM's CARD OF 'laws.FnExactRepoOk'. -/
def fnExactRepoOkUptoCard : Claim7 := { stood := { row := fnExactRepoOkUptoRow, standIns := [], harness := (true, "800e882c718717c3dd208fddd4414e83e4fc30628db171b29dc29b5c4f3feae1"), looks := false }, kinds := [], alts := [], laidByText := true, laidKinds := [.data, .pinned], laidTests := true, laidLooks := .later }
def FnExactRepoOkUptoCardSaid : Prop := Claim7.holds Tryd.pinned (.plain (OpenSpec.upto fnExactRepoOkSpec)) fnExactRepoOkUptoCard

/-- THE SECOND FORM's CARD OF 'laws.FnExactWriteRef'. -/
def fnExactWriteRefUptoCard : Claim7 := { stood := { row := fnExactWriteRefUptoRow, standIns := [], harness := (true, "800e882c718717c3dd208fddd4414e83e4fc30628db171b29dc29b5c4f3feae1"), looks := false }, kinds := [], alts := [], laidByText := true, laidKinds := [.data, .pinned], laidTests := true, laidLooks := .later }
def FnExactWriteRefUptoCardSaid : Prop := Claim7.holds Tryd.pinned (.plain (OpenSpec.upto fnExactWriteRefSpec)) fnExactWriteRefUptoCard

/-- THE SECOND FORM's CARD OF 'laws.FnExactReadRef'. -/
def fnExactReadRefUptoCard : Claim7 := { stood := { row := fnExactReadRefUptoRow, standIns := [], harness := (true, "800e882c718717c3dd208fddd4414e83e4fc30628db171b29dc29b5c4f3feae1"), looks := false }, kinds := [], alts := [], laidByText := true, laidKinds := [.data, .pinned], laidTests := true, laidLooks := .later }
def FnExactReadRefUptoCardSaid : Prop := Claim7.holds Tryd.pinned (.plain (OpenSpec.upto fnExactReadRefSpec)) fnExactReadRefUptoCard

/-- THE SECOND FORM's CARD OF 'laws.FnExactReadManifest'. -/
def fnExactReadManifestUptoCard : Claim7 := { stood := { row := fnExactReadManifestUptoRow, standIns := [], harness := (true, "800e882c718717c3dd208fddd4414e83e4fc30628db171b29dc29b5c4f3feae1"), looks := false }, kinds := [], alts := [], laidByText := true, laidKinds := [.data, .pinned], laidTests := true, laidLooks := .later }
def FnExactReadManifestUptoCardSaid : Prop := Claim7.holds Tryd.pinned (.plain (OpenSpec.upto fnExactReadManifestSpec)) fnExactReadManifestUptoCard

/-- THE SECOND FORM's CARD OF 'laws.FnRefs'. -/
def fnRefsUptoCard : Claim7 := { stood := { row := fnRefsUptoRow, standIns := [], harness := (true, "800e882c718717c3dd208fddd4414e83e4fc30628db171b29dc29b5c4f3feae1"), looks := false }, kinds := [], alts := [], laidByText := true, laidKinds := [.data, .pinned], laidTests := true, laidLooks := .later }
def FnRefsUptoCardSaid : Prop := Claim7.holds Tryd.pinned (.plain (OpenSpec.upto fnRefsSpec)) fnRefsUptoCard
end Rows
end Go.Proofs.YtldpdaifajjaeaaDoor
