/-
  DERIVED. GIVEN WITH THE SEED: THE CARDS: each row of YtoeomljkhabifaaDoorRows.lean that lists a variable, with what it lists TIED to the program's text (the seventh form; the later family's looks); each row that meets fmt, with fmt's text TOLD by the authors' own Lean function (tested against real Go, not proved from fmt's source: count such statements apart). THE CARD IS WHAT COUNTS. Prove the row's statement (the work); the ties are given (YtoeomljkhabifaaDoorTie.lean); close each card by the builder's one call (the guide's Derived/Test/ToyasCard.lean, 'card_holds'). Laid BY PROGRAM, IN A SANDBOX (cutbox-door.mjs). By AI agents, Wed Nov 11 2026. No macro, syntax, notation, axiom, sorry.
-/
import Derived.Test.YtoeomljkhabifaaDoorRows
import GoSem.ClaimSeven
namespace Go.Proofs.YtoeomljkhabifaaDoor
namespace Rows

/-- THE TIED CARD OF 'laws.FnExactNodeOf'. -/
def fnExactNodeOfCard : Claim7 := { stood := { row := fnExactNodeOfRow, standIns := [], harness := (true, "94458948ff608fffc974fd77ed869632184d183b9112d87333c512ec2ac34291"), looks := false }, kinds := [], alts := [], laidByText := true, laidKinds := [.data, .pinned], laidTests := true, laidLooks := .later }
def FnExactNodeOfCardSaid : Prop := Claim7.holds Tryd.pinned (.plain (OpenSpec.ofChange fnExactNodeOfSpec)) fnExactNodeOfCard

/-- THE TIED CARD OF 'laws.FnExactSteps'. -/
def fnExactStepsCard : Claim7 := { stood := { row := fnExactStepsRow, standIns := [], harness := (true, "94458948ff608fffc974fd77ed869632184d183b9112d87333c512ec2ac34291"), looks := false }, kinds := [], alts := [], laidByText := true, laidKinds := [.data, .pinned], laidTests := true, laidLooks := .later }
def FnExactStepsCardSaid : Prop := Claim7.holds Tryd.pinned (.plain (OpenSpec.ofChange fnExactStepsSpec)) fnExactStepsCard

/-- THE TIED CARD OF 'laws.FnDiff'. -/
def fnDiffCard : Claim7 := { stood := { row := fnDiffRow, standIns := [], harness := (true, "94458948ff608fffc974fd77ed869632184d183b9112d87333c512ec2ac34291"), looks := false }, kinds := [], alts := [], laidByText := true, laidKinds := [.data, .pinned], laidTests := true, laidLooks := .later }
def FnDiffCardSaid : Prop := Claim7.holds Tryd.pinned (.plain (OpenSpec.ofChange fnDiffSpec)) fnDiffCard

/-- THE SECOND FORM's CARD OF 'laws.FnExactNodeOf'. -/
def fnExactNodeOfUptoCard : Claim7 := { stood := { row := fnExactNodeOfUptoRow, standIns := [], harness := (true, "94458948ff608fffc974fd77ed869632184d183b9112d87333c512ec2ac34291"), looks := false }, kinds := [], alts := [], laidByText := true, laidKinds := [.data, .pinned], laidTests := true, laidLooks := .later }
def FnExactNodeOfUptoCardSaid : Prop := Claim7.holds Tryd.pinned (.plain (OpenSpec.upto fnExactNodeOfSpec)) fnExactNodeOfUptoCard

/-- THE SECOND FORM's CARD OF 'laws.FnExactSteps'. -/
def fnExactStepsUptoCard : Claim7 := { stood := { row := fnExactStepsUptoRow, standIns := [], harness := (true, "94458948ff608fffc974fd77ed869632184d183b9112d87333c512ec2ac34291"), looks := false }, kinds := [], alts := [], laidByText := true, laidKinds := [.data, .pinned], laidTests := true, laidLooks := .later }
def FnExactStepsUptoCardSaid : Prop := Claim7.holds Tryd.pinned (.plain (OpenSpec.upto fnExactStepsSpec)) fnExactStepsUptoCard

/-- THE SECOND FORM's CARD OF 'laws.FnDiff'. -/
def fnDiffUptoCard : Claim7 := { stood := { row := fnDiffUptoRow, standIns := [], harness := (true, "94458948ff608fffc974fd77ed869632184d183b9112d87333c512ec2ac34291"), looks := false }, kinds := [], alts := [], laidByText := true, laidKinds := [.data, .pinned], laidTests := true, laidLooks := .later }
def FnDiffUptoCardSaid : Prop := Claim7.holds Tryd.pinned (.plain (OpenSpec.upto fnDiffSpec)) fnDiffUptoCard
end Rows
end Go.Proofs.YtoeomljkhabifaaDoor
