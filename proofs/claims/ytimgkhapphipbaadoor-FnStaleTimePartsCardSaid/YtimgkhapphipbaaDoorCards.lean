/-
  DERIVED. GIVEN WITH THE SEED: THE CARDS: each row of YtimgkhapphipbaaDoorRows.lean that lists a variable, with what it lists TIED to the program's text (the seventh form; the later family's looks); each row that meets fmt, with fmt's text TOLD by the authors' own Lean function (tested against real Go, not proved from fmt's source: count such statements apart). THE CARD IS WHAT COUNTS. Prove the row's statement (the work); the ties are given (YtimgkhapphipbaaDoorTie.lean); close each card by the builder's one call (the guide's Derived/Test/ToyasCard.lean, 'card_holds'). Laid BY PROGRAM, IN A SANDBOX (cutbox-door.mjs). By AI agents, Wed Nov 11 2026. No macro, syntax, notation, axiom, sorry.
-/
import Derived.Test.YtimgkhapphipbaaDoorRows
import GoSem.ClaimSeven
namespace Go.Proofs.YtimgkhapphipbaaDoor
namespace Rows

/-- THE TIED CARD OF 'laws.FnExactStaleTime'. -/
def fnExactStaleTimeCard : Claim7 := { stood := { row := fnExactStaleTimeRow, standIns := [], harness := (true, "ff1cb846b11e8799e51082d83fb2730228b8135c6f48553e5d03cf07c5e3d034"), looks := false }, kinds := [], alts := [], laidByText := true, laidKinds := [.data], laidTests := true, laidLooks := .later }
def FnExactStaleTimeCardSaid : Prop := Claim7.holds Tryd.pinned (.plain (OpenSpec.ofChange fnExactStaleTimeSpec)) fnExactStaleTimeCard

/-- THE TIED CARD OF 'laws.FnStaleTimeParts'. -/
def fnStaleTimePartsCard : Claim7 := { stood := { row := fnStaleTimePartsRow, standIns := [], harness := (true, "ff1cb846b11e8799e51082d83fb2730228b8135c6f48553e5d03cf07c5e3d034"), looks := false }, kinds := [], alts := [], laidByText := true, laidKinds := [.data], laidTests := true, laidLooks := .later }
def FnStaleTimePartsCardSaid : Prop := Claim7.holds Tryd.pinned (.plain (OpenSpec.ofChange fnStaleTimePartsSpec)) fnStaleTimePartsCard

/-- THE TIED CARD OF 'laws.FnExactStaleTasks'. -/
def fnExactStaleTasksCard : Claim7 := { stood := { row := fnExactStaleTasksRow, standIns := [], harness := (true, "ff1cb846b11e8799e51082d83fb2730228b8135c6f48553e5d03cf07c5e3d034"), looks := false }, kinds := [], alts := [], laidByText := true, laidKinds := [.data], laidTests := true, laidLooks := .later }
def FnExactStaleTasksCardSaid : Prop := Claim7.holds Tryd.pinned (.plain (OpenSpec.ofChange fnExactStaleTasksSpec)) fnExactStaleTasksCard

/-- THE TIED CARD OF 'laws.FnStaleTasksAgain'. -/
def fnStaleTasksAgainCard : Claim7 := { stood := { row := fnStaleTasksAgainRow, standIns := [], harness := (true, "ff1cb846b11e8799e51082d83fb2730228b8135c6f48553e5d03cf07c5e3d034"), looks := false }, kinds := [], alts := [], laidByText := true, laidKinds := [.data], laidTests := true, laidLooks := .later }
def FnStaleTasksAgainCardSaid : Prop := Claim7.holds Tryd.pinned (.plain (OpenSpec.ofChange fnStaleTasksAgainSpec)) fnStaleTasksAgainCard

/-- THE TIED CARD OF 'laws.FnStaleTasksMore'. -/
def fnStaleTasksMoreCard : Claim7 := { stood := { row := fnStaleTasksMoreRow, standIns := [], harness := (true, "ff1cb846b11e8799e51082d83fb2730228b8135c6f48553e5d03cf07c5e3d034"), looks := false }, kinds := [], alts := [], laidByText := true, laidKinds := [.data], laidTests := true, laidLooks := .later }
def FnStaleTasksMoreCardSaid : Prop := Claim7.holds Tryd.pinned (.plain (OpenSpec.ofChange fnStaleTasksMoreSpec)) fnStaleTasksMoreCard

/-- THE TIED CARD OF 'laws.FnStaleTime'. -/
def fnStaleTimeCard : Claim7 := { stood := { row := fnStaleTimeRow, standIns := [], harness := (true, "ff1cb846b11e8799e51082d83fb2730228b8135c6f48553e5d03cf07c5e3d034"), looks := false }, kinds := [], alts := [], laidByText := true, laidKinds := [.data], laidTests := true, laidLooks := .later }
def FnStaleTimeCardSaid : Prop := Claim7.holds Tryd.pinned (.plain (OpenSpec.ofChange fnStaleTimeSpec)) fnStaleTimeCard

/-- THE TIED CARD OF 'laws.FnStaleTasks'. -/
def fnStaleTasksCard : Claim7 := { stood := { row := fnStaleTasksRow, standIns := [], harness := (true, "ff1cb846b11e8799e51082d83fb2730228b8135c6f48553e5d03cf07c5e3d034"), looks := false }, kinds := [], alts := [], laidByText := true, laidKinds := [.data], laidTests := true, laidLooks := .later }
def FnStaleTasksCardSaid : Prop := Claim7.holds Tryd.pinned (.plain (OpenSpec.ofChange fnStaleTasksSpec)) fnStaleTasksCard

/-- THE SECOND FORM's CARD OF 'laws.FnExactStaleTime'. -/
def fnExactStaleTimeUptoCard : Claim7 := { stood := { row := fnExactStaleTimeUptoRow, standIns := [], harness := (true, "ff1cb846b11e8799e51082d83fb2730228b8135c6f48553e5d03cf07c5e3d034"), looks := false }, kinds := [], alts := [], laidByText := true, laidKinds := [.data], laidTests := true, laidLooks := .later }
def FnExactStaleTimeUptoCardSaid : Prop := Claim7.holds Tryd.pinned (.plain (OpenSpec.upto fnExactStaleTimeSpec)) fnExactStaleTimeUptoCard

/-- THE SECOND FORM's CARD OF 'laws.FnStaleTimeParts'. -/
def fnStaleTimePartsUptoCard : Claim7 := { stood := { row := fnStaleTimePartsUptoRow, standIns := [], harness := (true, "ff1cb846b11e8799e51082d83fb2730228b8135c6f48553e5d03cf07c5e3d034"), looks := false }, kinds := [], alts := [], laidByText := true, laidKinds := [.data], laidTests := true, laidLooks := .later }
def FnStaleTimePartsUptoCardSaid : Prop := Claim7.holds Tryd.pinned (.plain (OpenSpec.upto fnStaleTimePartsSpec)) fnStaleTimePartsUptoCard

/-- THE SECOND FORM's CARD OF 'laws.FnExactStaleTasks'. -/
def fnExactStaleTasksUptoCard : Claim7 := { stood := { row := fnExactStaleTasksUptoRow, standIns := [], harness := (true, "ff1cb846b11e8799e51082d83fb2730228b8135c6f48553e5d03cf07c5e3d034"), looks := false }, kinds := [], alts := [], laidByText := true, laidKinds := [.data], laidTests := true, laidLooks := .later }
def FnExactStaleTasksUptoCardSaid : Prop := Claim7.holds Tryd.pinned (.plain (OpenSpec.upto fnExactStaleTasksSpec)) fnExactStaleTasksUptoCard

/-- THE SECOND FORM's CARD OF 'laws.FnStaleTasksAgain'. -/
def fnStaleTasksAgainUptoCard : Claim7 := { stood := { row := fnStaleTasksAgainUptoRow, standIns := [], harness := (true, "ff1cb846b11e8799e51082d83fb2730228b8135c6f48553e5d03cf07c5e3d034"), looks := false }, kinds := [], alts := [], laidByText := true, laidKinds := [.data], laidTests := true, laidLooks := .later }
def FnStaleTasksAgainUptoCardSaid : Prop := Claim7.holds Tryd.pinned (.plain (OpenSpec.upto fnStaleTasksAgainSpec)) fnStaleTasksAgainUptoCard

/-- THE SECOND FORM's CARD OF 'laws.FnStaleTasksMore'. -/
def fnStaleTasksMoreUptoCard : Claim7 := { stood := { row := fnStaleTasksMoreUptoRow, standIns := [], harness := (true, "ff1cb846b11e8799e51082d83fb2730228b8135c6f48553e5d03cf07c5e3d034"), looks := false }, kinds := [], alts := [], laidByText := true, laidKinds := [.data], laidTests := true, laidLooks := .later }
def FnStaleTasksMoreUptoCardSaid : Prop := Claim7.holds Tryd.pinned (.plain (OpenSpec.upto fnStaleTasksMoreSpec)) fnStaleTasksMoreUptoCard

/-- THE SECOND FORM's CARD OF 'laws.FnStaleTime'. -/
def fnStaleTimeUptoCard : Claim7 := { stood := { row := fnStaleTimeUptoRow, standIns := [], harness := (true, "ff1cb846b11e8799e51082d83fb2730228b8135c6f48553e5d03cf07c5e3d034"), looks := false }, kinds := [], alts := [], laidByText := true, laidKinds := [.data], laidTests := true, laidLooks := .later }
def FnStaleTimeUptoCardSaid : Prop := Claim7.holds Tryd.pinned (.plain (OpenSpec.upto fnStaleTimeSpec)) fnStaleTimeUptoCard

/-- THE SECOND FORM's CARD OF 'laws.FnStaleTasks'. -/
def fnStaleTasksUptoCard : Claim7 := { stood := { row := fnStaleTasksUptoRow, standIns := [], harness := (true, "ff1cb846b11e8799e51082d83fb2730228b8135c6f48553e5d03cf07c5e3d034"), looks := false }, kinds := [], alts := [], laidByText := true, laidKinds := [.data], laidTests := true, laidLooks := .later }
def FnStaleTasksUptoCardSaid : Prop := Claim7.holds Tryd.pinned (.plain (OpenSpec.upto fnStaleTasksSpec)) fnStaleTasksUptoCard
end Rows
end Go.Proofs.YtimgkhapphipbaaDoor
