/-
  DERIVED. GIVEN WITH THE SEED: THE CARDS: each row of YtifchnibhohnpaaDoorRows.lean that lists a variable, with what it lists TIED to the program's text (the seventh form; the later family's looks); each row that meets fmt, with fmt's text TOLD by the authors' own Lean function (tested against real Go, not proved from fmt's source: count such statements apart). THE CARD IS WHAT COUNTS. Prove the row's statement (the work); the ties are given (YtifchnibhohnpaaDoorTie.lean); close each card by the builder's one call (the guide's Derived/Test/ToyasCard.lean, 'card_holds'). Laid BY PROGRAM, IN A SANDBOX (cutbox-door.mjs). By AI agents, Wed Nov 11 2026. No macro, syntax, notation, axiom, sorry.
-/
import Derived.Test.YtifchnibhohnpaaDoorRows
import GoSem.ClaimSeven
namespace Go.Proofs.YtifchnibhohnpaaDoor
namespace Rows

/-- THE TIED CARD OF 'laws.FnExactUnder'. -/
def fnExactUnderCard : Claim7 := { stood := { row := fnExactUnderRow, standIns := [], harness := (true, "51197f90bd735175fb99c1a0fe5c16ae26cb81cc72b139fceacd04c077bdd39b"), looks := false }, kinds := [], alts := [], laidByText := true, laidKinds := [.data, .pinned], laidTests := true, laidLooks := .later }
def FnExactUnderCardSaid : Prop := Claim7.holds Tryd.pinned (.plain (OpenSpec.ofChange fnExactUnderSpec)) fnExactUnderCard

/-- THE TIED CARD OF 'laws.FnExactCutFrom'. -/
def fnExactCutFromCard : Claim7 := { stood := { row := fnExactCutFromRow, standIns := [], harness := (true, "51197f90bd735175fb99c1a0fe5c16ae26cb81cc72b139fceacd04c077bdd39b"), looks := false }, kinds := [], alts := [], laidByText := true, laidKinds := [.data, .pinned], laidTests := true, laidLooks := .later }
def FnExactCutFromCardSaid : Prop := Claim7.holds Tryd.pinned (.plain (OpenSpec.ofChange fnExactCutFromSpec)) fnExactCutFromCard

/-- THE TIED CARD OF 'laws.FnExactAddTo'. -/
def fnExactAddToCard : Claim7 := { stood := { row := fnExactAddToRow, standIns := [], harness := (true, "51197f90bd735175fb99c1a0fe5c16ae26cb81cc72b139fceacd04c077bdd39b"), looks := false }, kinds := [], alts := [], laidByText := true, laidKinds := [.data, .pinned], laidTests := true, laidLooks := .later }
def FnExactAddToCardSaid : Prop := Claim7.holds Tryd.pinned (.plain (OpenSpec.ofChange fnExactAddToSpec)) fnExactAddToCard

/-- THE TIED CARD OF 'laws.FnExactNodeOf'. -/
def fnExactNodeOfCard : Claim7 := { stood := { row := fnExactNodeOfRow, standIns := [], harness := (true, "51197f90bd735175fb99c1a0fe5c16ae26cb81cc72b139fceacd04c077bdd39b"), looks := false }, kinds := [], alts := [], laidByText := true, laidKinds := [.data, .pinned], laidTests := true, laidLooks := .later }
def FnExactNodeOfCardSaid : Prop := Claim7.holds Tryd.pinned (.plain (OpenSpec.ofChange fnExactNodeOfSpec)) fnExactNodeOfCard

/-- THE TIED CARD OF 'laws.FnExactSteps'. -/
def fnExactStepsCard : Claim7 := { stood := { row := fnExactStepsRow, standIns := [], harness := (true, "51197f90bd735175fb99c1a0fe5c16ae26cb81cc72b139fceacd04c077bdd39b"), looks := false }, kinds := [], alts := [], laidByText := true, laidKinds := [.data, .pinned], laidTests := true, laidLooks := .later }
def FnExactStepsCardSaid : Prop := Claim7.holds Tryd.pinned (.plain (OpenSpec.ofChange fnExactStepsSpec)) fnExactStepsCard

/-- THE TIED CARD OF 'laws.FnSets'. -/
def fnSetsCard : Claim7 := { stood := { row := fnSetsRow, standIns := [], harness := (true, "51197f90bd735175fb99c1a0fe5c16ae26cb81cc72b139fceacd04c077bdd39b"), looks := false }, kinds := [], alts := [], laidByText := true, laidKinds := [.data, .pinned], laidTests := true, laidLooks := .later }
def FnSetsCardSaid : Prop := Claim7.holds Tryd.pinned (.plain (OpenSpec.ofChange fnSetsSpec)) fnSetsCard

/-- THE TIED CARD OF 'laws.FnDiff'. -/
def fnDiffCard : Claim7 := { stood := { row := fnDiffRow, standIns := [], harness := (true, "51197f90bd735175fb99c1a0fe5c16ae26cb81cc72b139fceacd04c077bdd39b"), looks := false }, kinds := [], alts := [], laidByText := true, laidKinds := [.data, .pinned], laidTests := true, laidLooks := .later }
def FnDiffCardSaid : Prop := Claim7.holds Tryd.pinned (.plain (OpenSpec.ofChange fnDiffSpec)) fnDiffCard

/-- THE SECOND FORM's CARD OF 'laws.FnExactUnder'. -/
def fnExactUnderUptoCard : Claim7 := { stood := { row := fnExactUnderUptoRow, standIns := [], harness := (true, "51197f90bd735175fb99c1a0fe5c16ae26cb81cc72b139fceacd04c077bdd39b"), looks := false }, kinds := [], alts := [], laidByText := true, laidKinds := [.data, .pinned], laidTests := true, laidLooks := .later }
def FnExactUnderUptoCardSaid : Prop := Claim7.holds Tryd.pinned (.plain (OpenSpec.upto fnExactUnderSpec)) fnExactUnderUptoCard

/-- THE SECOND FORM's CARD OF 'laws.FnExactCutFrom'. -/
def fnExactCutFromUptoCard : Claim7 := { stood := { row := fnExactCutFromUptoRow, standIns := [], harness := (true, "51197f90bd735175fb99c1a0fe5c16ae26cb81cc72b139fceacd04c077bdd39b"), looks := false }, kinds := [], alts := [], laidByText := true, laidKinds := [.data, .pinned], laidTests := true, laidLooks := .later }
def FnExactCutFromUptoCardSaid : Prop := Claim7.holds Tryd.pinned (.plain (OpenSpec.upto fnExactCutFromSpec)) fnExactCutFromUptoCard

/-- THE SECOND FORM's CARD OF 'laws.FnExactAddTo'. -/
def fnExactAddToUptoCard : Claim7 := { stood := { row := fnExactAddToUptoRow, standIns := [], harness := (true, "51197f90bd735175fb99c1a0fe5c16ae26cb81cc72b139fceacd04c077bdd39b"), looks := false }, kinds := [], alts := [], laidByText := true, laidKinds := [.data, .pinned], laidTests := true, laidLooks := .later }
def FnExactAddToUptoCardSaid : Prop := Claim7.holds Tryd.pinned (.plain (OpenSpec.upto fnExactAddToSpec)) fnExactAddToUptoCard

/-- THE SECOND FORM's CARD OF 'laws.FnExactNodeOf'. -/
def fnExactNodeOfUptoCard : Claim7 := { stood := { row := fnExactNodeOfUptoRow, standIns := [], harness := (true, "51197f90bd735175fb99c1a0fe5c16ae26cb81cc72b139fceacd04c077bdd39b"), looks := false }, kinds := [], alts := [], laidByText := true, laidKinds := [.data, .pinned], laidTests := true, laidLooks := .later }
def FnExactNodeOfUptoCardSaid : Prop := Claim7.holds Tryd.pinned (.plain (OpenSpec.upto fnExactNodeOfSpec)) fnExactNodeOfUptoCard

/-- THE SECOND FORM's CARD OF 'laws.FnExactSteps'. -/
def fnExactStepsUptoCard : Claim7 := { stood := { row := fnExactStepsUptoRow, standIns := [], harness := (true, "51197f90bd735175fb99c1a0fe5c16ae26cb81cc72b139fceacd04c077bdd39b"), looks := false }, kinds := [], alts := [], laidByText := true, laidKinds := [.data, .pinned], laidTests := true, laidLooks := .later }
def FnExactStepsUptoCardSaid : Prop := Claim7.holds Tryd.pinned (.plain (OpenSpec.upto fnExactStepsSpec)) fnExactStepsUptoCard

/-- THE SECOND FORM's CARD OF 'laws.FnSets'. -/
def fnSetsUptoCard : Claim7 := { stood := { row := fnSetsUptoRow, standIns := [], harness := (true, "51197f90bd735175fb99c1a0fe5c16ae26cb81cc72b139fceacd04c077bdd39b"), looks := false }, kinds := [], alts := [], laidByText := true, laidKinds := [.data, .pinned], laidTests := true, laidLooks := .later }
def FnSetsUptoCardSaid : Prop := Claim7.holds Tryd.pinned (.plain (OpenSpec.upto fnSetsSpec)) fnSetsUptoCard

/-- THE SECOND FORM's CARD OF 'laws.FnDiff'. -/
def fnDiffUptoCard : Claim7 := { stood := { row := fnDiffUptoRow, standIns := [], harness := (true, "51197f90bd735175fb99c1a0fe5c16ae26cb81cc72b139fceacd04c077bdd39b"), looks := false }, kinds := [], alts := [], laidByText := true, laidKinds := [.data, .pinned], laidTests := true, laidLooks := .later }
def FnDiffUptoCardSaid : Prop := Claim7.holds Tryd.pinned (.plain (OpenSpec.upto fnDiffSpec)) fnDiffUptoCard
end Rows
end Go.Proofs.YtifchnibhohnpaaDoor
