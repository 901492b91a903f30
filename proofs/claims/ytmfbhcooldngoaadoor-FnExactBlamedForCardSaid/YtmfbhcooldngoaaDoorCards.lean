/-
  DERIVED. GIVEN WITH THE SEED: THE CARDS: each row of YtmfbhcooldngoaaDoorRows.lean that lists a variable, with what it lists TIED to the program's text (the seventh form; the later family's looks); each row that meets fmt, with fmt's text TOLD by the authors' own Lean function (tested against real Go, not proved from fmt's source: count such statements apart). THE CARD IS WHAT COUNTS. Prove the row's statement (the work); the ties are given (YtmfbhcooldngoaaDoorTie.lean); close each card by the builder's one call (the guide's Derived/Test/ToyasCard.lean, 'card_holds'). Laid BY PROGRAM, IN A SANDBOX (cutbox-door.mjs). By AI agents, Wed Nov 11 2026. No macro, syntax, notation, axiom, sorry.
-/
import Derived.Test.YtmfbhcooldngoaaDoorRows
import GoSem.ClaimSeven
namespace Go.Proofs.YtmfbhcooldngoaaDoor
namespace Rows

/-- THE TIED CARD OF 'laws.FnBlamedFor'. -/
def fnBlamedForCard : Claim7 := { stood := { row := fnBlamedForRow, standIns := [], harness := (true, "c4e6ee201c71028f009acd0535b61691e12f7d1faeda6fc0d796a48dd7873465"), looks := false }, kinds := [], alts := [], laidByText := true, laidKinds := [.data], laidTests := true, laidLooks := .later }
def FnBlamedForCardSaid : Prop := Claim7.holds Tryd.pinned (.plain (OpenSpec.ofChange fnBlamedForSpec)) fnBlamedForCard

/-- THE TIED CARD OF 'laws.FnExactBlamedFor'. -/
def fnExactBlamedForCard : Claim7 := { stood := { row := fnExactBlamedForRow, standIns := [], harness := (true, "c4e6ee201c71028f009acd0535b61691e12f7d1faeda6fc0d796a48dd7873465"), looks := false }, kinds := [], alts := [], laidByText := true, laidKinds := [.data], laidTests := true, laidLooks := .later }
def FnExactBlamedForCardSaid : Prop := Claim7.holds Tryd.pinned (.plain (OpenSpec.ofChange fnExactBlamedForSpec)) fnExactBlamedForCard

/-- THE TIED CARD OF 'laws.FnBlamedForSelf'. -/
def fnBlamedForSelfCard : Claim7 := { stood := { row := fnBlamedForSelfRow, standIns := [], harness := (true, "c4e6ee201c71028f009acd0535b61691e12f7d1faeda6fc0d796a48dd7873465"), looks := false }, kinds := [], alts := [], laidByText := true, laidKinds := [.data], laidTests := true, laidLooks := .later }
def FnBlamedForSelfCardSaid : Prop := Claim7.holds Tryd.pinned (.plain (OpenSpec.ofChange fnBlamedForSelfSpec)) fnBlamedForSelfCard

/-- THE TIED CARD OF 'laws.FnOutcomesKeep'. -/
def fnOutcomesKeepCard : Claim7 := { stood := { row := fnOutcomesKeepRow, standIns := [], harness := (true, "c4e6ee201c71028f009acd0535b61691e12f7d1faeda6fc0d796a48dd7873465"), looks := false }, kinds := [], alts := [], laidByText := true, laidKinds := [.data], laidTests := true, laidLooks := .later }
def FnOutcomesKeepCardSaid : Prop := Claim7.holds Tryd.pinned (.plain (OpenSpec.ofChange fnOutcomesKeepSpec)) fnOutcomesKeepCard

/-- THE TIED CARD OF 'laws.FnOutcomesFirst'. -/
def fnOutcomesFirstCard : Claim7 := { stood := { row := fnOutcomesFirstRow, standIns := [], harness := (true, "c4e6ee201c71028f009acd0535b61691e12f7d1faeda6fc0d796a48dd7873465"), looks := false }, kinds := [], alts := [], laidByText := true, laidKinds := [.data], laidTests := true, laidLooks := .later }
def FnOutcomesFirstCardSaid : Prop := Claim7.holds Tryd.pinned (.plain (OpenSpec.ofChange fnOutcomesFirstSpec)) fnOutcomesFirstCard

/-- THE TIED CARD OF 'laws.FnOutcomesNone'. -/
def fnOutcomesNoneCard : Claim7 := { stood := { row := fnOutcomesNoneRow, standIns := [], harness := (true, "c4e6ee201c71028f009acd0535b61691e12f7d1faeda6fc0d796a48dd7873465"), looks := false }, kinds := [], alts := [], laidByText := true, laidKinds := [.data], laidTests := true, laidLooks := .later }
def FnOutcomesNoneCardSaid : Prop := Claim7.holds Tryd.pinned (.plain (OpenSpec.ofChange fnOutcomesNoneSpec)) fnOutcomesNoneCard

/-- THE TIED CARD OF 'laws.FnOutcomes'. -/
def fnOutcomesCard : Claim7 := { stood := { row := fnOutcomesRow, standIns := [], harness := (true, "c4e6ee201c71028f009acd0535b61691e12f7d1faeda6fc0d796a48dd7873465"), looks := false }, kinds := [], alts := [], laidByText := true, laidKinds := [.data], laidTests := true, laidLooks := .later }
def FnOutcomesCardSaid : Prop := Claim7.holds Tryd.pinned (.plain (OpenSpec.ofChange fnOutcomesSpec)) fnOutcomesCard

/-- THE SECOND FORM's CARD OF 'laws.FnBlamedFor'. -/
def fnBlamedForUptoCard : Claim7 := { stood := { row := fnBlamedForUptoRow, standIns := [], harness := (true, "c4e6ee201c71028f009acd0535b61691e12f7d1faeda6fc0d796a48dd7873465"), looks := false }, kinds := [], alts := [], laidByText := true, laidKinds := [.data], laidTests := true, laidLooks := .later }
def FnBlamedForUptoCardSaid : Prop := Claim7.holds Tryd.pinned (.plain (OpenSpec.upto fnBlamedForSpec)) fnBlamedForUptoCard

/-- THE SECOND FORM's CARD OF 'laws.FnExactBlamedFor'. -/
def fnExactBlamedForUptoCard : Claim7 := { stood := { row := fnExactBlamedForUptoRow, standIns := [], harness := (true, "c4e6ee201c71028f009acd0535b61691e12f7d1faeda6fc0d796a48dd7873465"), looks := false }, kinds := [], alts := [], laidByText := true, laidKinds := [.data], laidTests := true, laidLooks := .later }
def FnExactBlamedForUptoCardSaid : Prop := Claim7.holds Tryd.pinned (.plain (OpenSpec.upto fnExactBlamedForSpec)) fnExactBlamedForUptoCard

/-- THE SECOND FORM's CARD OF 'laws.FnBlamedForSelf'. -/
def fnBlamedForSelfUptoCard : Claim7 := { stood := { row := fnBlamedForSelfUptoRow, standIns := [], harness := (true, "c4e6ee201c71028f009acd0535b61691e12f7d1faeda6fc0d796a48dd7873465"), looks := false }, kinds := [], alts := [], laidByText := true, laidKinds := [.data], laidTests := true, laidLooks := .later }
def FnBlamedForSelfUptoCardSaid : Prop := Claim7.holds Tryd.pinned (.plain (OpenSpec.upto fnBlamedForSelfSpec)) fnBlamedForSelfUptoCard

/-- THE SECOND FORM's CARD OF 'laws.FnOutcomesKeep'. -/
def fnOutcomesKeepUptoCard : Claim7 := { stood := { row := fnOutcomesKeepUptoRow, standIns := [], harness := (true, "c4e6ee201c71028f009acd0535b61691e12f7d1faeda6fc0d796a48dd7873465"), looks := false }, kinds := [], alts := [], laidByText := true, laidKinds := [.data], laidTests := true, laidLooks := .later }
def FnOutcomesKeepUptoCardSaid : Prop := Claim7.holds Tryd.pinned (.plain (OpenSpec.upto fnOutcomesKeepSpec)) fnOutcomesKeepUptoCard

/-- THE SECOND FORM's CARD OF 'laws.FnOutcomesFirst'. -/
def fnOutcomesFirstUptoCard : Claim7 := { stood := { row := fnOutcomesFirstUptoRow, standIns := [], harness := (true, "c4e6ee201c71028f009acd0535b61691e12f7d1faeda6fc0d796a48dd7873465"), looks := false }, kinds := [], alts := [], laidByText := true, laidKinds := [.data], laidTests := true, laidLooks := .later }
def FnOutcomesFirstUptoCardSaid : Prop := Claim7.holds Tryd.pinned (.plain (OpenSpec.upto fnOutcomesFirstSpec)) fnOutcomesFirstUptoCard

/-- THE SECOND FORM's CARD OF 'laws.FnOutcomesNone'. -/
def fnOutcomesNoneUptoCard : Claim7 := { stood := { row := fnOutcomesNoneUptoRow, standIns := [], harness := (true, "c4e6ee201c71028f009acd0535b61691e12f7d1faeda6fc0d796a48dd7873465"), looks := false }, kinds := [], alts := [], laidByText := true, laidKinds := [.data], laidTests := true, laidLooks := .later }
def FnOutcomesNoneUptoCardSaid : Prop := Claim7.holds Tryd.pinned (.plain (OpenSpec.upto fnOutcomesNoneSpec)) fnOutcomesNoneUptoCard

/-- THE SECOND FORM's CARD OF 'laws.FnOutcomes'. -/
def fnOutcomesUptoCard : Claim7 := { stood := { row := fnOutcomesUptoRow, standIns := [], harness := (true, "c4e6ee201c71028f009acd0535b61691e12f7d1faeda6fc0d796a48dd7873465"), looks := false }, kinds := [], alts := [], laidByText := true, laidKinds := [.data], laidTests := true, laidLooks := .later }
def FnOutcomesUptoCardSaid : Prop := Claim7.holds Tryd.pinned (.plain (OpenSpec.upto fnOutcomesSpec)) fnOutcomesUptoCard
end Rows
end Go.Proofs.YtmfbhcooldngoaaDoor
