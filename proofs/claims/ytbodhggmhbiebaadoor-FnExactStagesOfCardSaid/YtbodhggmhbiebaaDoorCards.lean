/-
  DERIVED. GIVEN WITH THE SEED: THE CARDS: each row of YtbodhggmhbiebaaDoorRows.lean that lists a variable, with what it lists TIED to the program's text (the seventh form; the later family's looks); each row that meets fmt, with fmt's text TOLD by the authors' own Lean function (tested against real Go, not proved from fmt's source: count such statements apart). THE CARD IS WHAT COUNTS. Prove the row's statement (the work); the ties are given (YtbodhggmhbiebaaDoorTie.lean); close each card by the builder's one call (the guide's Derived/Test/ToyasCard.lean, 'card_holds'). Laid BY PROGRAM, IN A SANDBOX (cutbox-door.mjs). By AI agents, Wed Nov 11 2026. No macro, syntax, notation, axiom, sorry.
-/
import Derived.Test.YtbodhggmhbiebaaDoorRows
import GoSem.ClaimSeven
namespace Go.Proofs.YtbodhggmhbiebaaDoor
namespace Rows

/-- THE TIED CARD OF 'laws.FnStageOf'. -/
def fnStageOfCard : Claim7 := { stood := { row := fnStageOfRow, standIns := [], harness := (true, "2196a38e79bc741bd6f390c88d7fee7881b031fa909cf6173a97e95ebb4e1324"), looks := false }, kinds := [], alts := [], laidByText := true, laidKinds := [.data], laidTests := true, laidLooks := .later }
def FnStageOfCardSaid : Prop := Claim7.holds Tryd.pinned (.plain (OpenSpec.ofChange fnStageOfSpec)) fnStageOfCard

/-- THE TIED CARD OF 'laws.FnStageOfCount'. -/
def fnStageOfCountCard : Claim7 := { stood := { row := fnStageOfCountRow, standIns := [], harness := (true, "2196a38e79bc741bd6f390c88d7fee7881b031fa909cf6173a97e95ebb4e1324"), looks := false }, kinds := [], alts := [], laidByText := true, laidKinds := [.data], laidTests := true, laidLooks := .later }
def FnStageOfCountCardSaid : Prop := Claim7.holds Tryd.pinned (.plain (OpenSpec.ofChange fnStageOfCountSpec)) fnStageOfCountCard

/-- THE TIED CARD OF 'laws.FnStagesOf'. -/
def fnStagesOfCard : Claim7 := { stood := { row := fnStagesOfRow, standIns := [], harness := (true, "2196a38e79bc741bd6f390c88d7fee7881b031fa909cf6173a97e95ebb4e1324"), looks := false }, kinds := [], alts := [], laidByText := true, laidKinds := [.data], laidTests := true, laidLooks := .later }
def FnStagesOfCardSaid : Prop := Claim7.holds Tryd.pinned (.plain (OpenSpec.ofChange fnStagesOfSpec)) fnStagesOfCard

/-- THE TIED CARD OF 'laws.FnUselessNeedsNone'. -/
def fnUselessNeedsNoneCard : Claim7 := { stood := { row := fnUselessNeedsNoneRow, standIns := [], harness := (true, "2196a38e79bc741bd6f390c88d7fee7881b031fa909cf6173a97e95ebb4e1324"), looks := false }, kinds := [], alts := [], laidByText := true, laidKinds := [.data], laidTests := true, laidLooks := .later }
def FnUselessNeedsNoneCardSaid : Prop := Claim7.holds Tryd.pinned (.plain (OpenSpec.ofChange fnUselessNeedsNoneSpec)) fnUselessNeedsNoneCard

/-- THE TIED CARD OF 'laws.FnExactStageOf'. -/
def fnExactStageOfCard : Claim7 := { stood := { row := fnExactStageOfRow, standIns := [], harness := (true, "2196a38e79bc741bd6f390c88d7fee7881b031fa909cf6173a97e95ebb4e1324"), looks := false }, kinds := [], alts := [], laidByText := true, laidKinds := [.data], laidTests := true, laidLooks := .later }
def FnExactStageOfCardSaid : Prop := Claim7.holds Tryd.pinned (.plain (OpenSpec.ofChange fnExactStageOfSpec)) fnExactStageOfCard

/-- THE TIED CARD OF 'laws.FnExactStagesOf'. -/
def fnExactStagesOfCard : Claim7 := { stood := { row := fnExactStagesOfRow, standIns := [], harness := (true, "2196a38e79bc741bd6f390c88d7fee7881b031fa909cf6173a97e95ebb4e1324"), looks := false }, kinds := [], alts := [], laidByText := true, laidKinds := [.data], laidTests := true, laidLooks := .later }
def FnExactStagesOfCardSaid : Prop := Claim7.holds Tryd.pinned (.plain (OpenSpec.ofChange fnExactStagesOfSpec)) fnExactStagesOfCard

/-- THE SECOND FORM's CARD OF 'laws.FnStageOf'. -/
def fnStageOfUptoCard : Claim7 := { stood := { row := fnStageOfUptoRow, standIns := [], harness := (true, "2196a38e79bc741bd6f390c88d7fee7881b031fa909cf6173a97e95ebb4e1324"), looks := false }, kinds := [], alts := [], laidByText := true, laidKinds := [.data], laidTests := true, laidLooks := .later }
def FnStageOfUptoCardSaid : Prop := Claim7.holds Tryd.pinned (.plain (OpenSpec.upto fnStageOfSpec)) fnStageOfUptoCard

/-- THE SECOND FORM's CARD OF 'laws.FnStageOfCount'. -/
def fnStageOfCountUptoCard : Claim7 := { stood := { row := fnStageOfCountUptoRow, standIns := [], harness := (true, "2196a38e79bc741bd6f390c88d7fee7881b031fa909cf6173a97e95ebb4e1324"), looks := false }, kinds := [], alts := [], laidByText := true, laidKinds := [.data], laidTests := true, laidLooks := .later }
def FnStageOfCountUptoCardSaid : Prop := Claim7.holds Tryd.pinned (.plain (OpenSpec.upto fnStageOfCountSpec)) fnStageOfCountUptoCard

/-- THE SECOND FORM's CARD OF 'laws.FnStagesOf'. -/
def fnStagesOfUptoCard : Claim7 := { stood := { row := fnStagesOfUptoRow, standIns := [], harness := (true, "2196a38e79bc741bd6f390c88d7fee7881b031fa909cf6173a97e95ebb4e1324"), looks := false }, kinds := [], alts := [], laidByText := true, laidKinds := [.data], laidTests := true, laidLooks := .later }
def FnStagesOfUptoCardSaid : Prop := Claim7.holds Tryd.pinned (.plain (OpenSpec.upto fnStagesOfSpec)) fnStagesOfUptoCard

/-- THE SECOND FORM's CARD OF 'laws.FnUselessNeedsNone'. -/
def fnUselessNeedsNoneUptoCard : Claim7 := { stood := { row := fnUselessNeedsNoneUptoRow, standIns := [], harness := (true, "2196a38e79bc741bd6f390c88d7fee7881b031fa909cf6173a97e95ebb4e1324"), looks := false }, kinds := [], alts := [], laidByText := true, laidKinds := [.data], laidTests := true, laidLooks := .later }
def FnUselessNeedsNoneUptoCardSaid : Prop := Claim7.holds Tryd.pinned (.plain (OpenSpec.upto fnUselessNeedsNoneSpec)) fnUselessNeedsNoneUptoCard

/-- THE SECOND FORM's CARD OF 'laws.FnExactStageOf'. -/
def fnExactStageOfUptoCard : Claim7 := { stood := { row := fnExactStageOfUptoRow, standIns := [], harness := (true, "2196a38e79bc741bd6f390c88d7fee7881b031fa909cf6173a97e95ebb4e1324"), looks := false }, kinds := [], alts := [], laidByText := true, laidKinds := [.data], laidTests := true, laidLooks := .later }
def FnExactStageOfUptoCardSaid : Prop := Claim7.holds Tryd.pinned (.plain (OpenSpec.upto fnExactStageOfSpec)) fnExactStageOfUptoCard

/-- THE SECOND FORM's CARD OF 'laws.FnExactStagesOf'. -/
def fnExactStagesOfUptoCard : Claim7 := { stood := { row := fnExactStagesOfUptoRow, standIns := [], harness := (true, "2196a38e79bc741bd6f390c88d7fee7881b031fa909cf6173a97e95ebb4e1324"), looks := false }, kinds := [], alts := [], laidByText := true, laidKinds := [.data], laidTests := true, laidLooks := .later }
def FnExactStagesOfUptoCardSaid : Prop := Claim7.holds Tryd.pinned (.plain (OpenSpec.upto fnExactStagesOfSpec)) fnExactStagesOfUptoCard
end Rows
end Go.Proofs.YtbodhggmhbiebaaDoor
