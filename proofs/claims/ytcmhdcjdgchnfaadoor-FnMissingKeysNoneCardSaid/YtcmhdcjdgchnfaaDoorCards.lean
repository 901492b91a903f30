/-
  DERIVED. GIVEN WITH THE SEED: THE CARDS: each row of YtcmhdcjdgchnfaaDoorRows.lean that lists a variable, with what it lists TIED to the program's text (the seventh form; the later family's looks); each row that meets fmt, with fmt's text TOLD by the authors' own Lean function (tested against real Go, not proved from fmt's source: count such statements apart). THE CARD IS WHAT COUNTS. Prove the row's statement (the work); the ties are given (YtcmhdcjdgchnfaaDoorTie.lean); close each card by the builder's one call (the guide's Derived/Test/ToyasCard.lean, 'card_holds'). Laid BY PROGRAM, IN A SANDBOX (cutbox-door.mjs). By AI agents, Wed Nov 11 2026. No macro, syntax, notation, axiom, sorry.
-/
import Derived.Test.YtcmhdcjdgchnfaaDoorRows
import GoSem.ClaimSeven
namespace Go.Proofs.YtcmhdcjdgchnfaaDoor
namespace Rows

/-- THE TIED CARD OF 'laws.FnTaskKeysChange'. -/
def fnTaskKeysChangeCard : Claim7 := { stood := { row := fnTaskKeysChangeRow, standIns := [], harness := (true, "a30b8cfeeff47ceeabae5bd8c26f5f4eaa422d88d00637b85b55d20dd5d522e2"), looks := false }, kinds := [], alts := [], laidByText := true, laidKinds := [.data], laidTests := true, laidLooks := .later }
def FnTaskKeysChangeCardSaid : Prop := Claim7.holds Tryd.pinned (.plain (OpenSpec.ofChange fnTaskKeysChangeSpec)) fnTaskKeysChangeCard

/-- THE TIED CARD OF 'laws.FnMissingKeys'. -/
def fnMissingKeysCard : Claim7 := { stood := { row := fnMissingKeysRow, standIns := [], harness := (true, "a30b8cfeeff47ceeabae5bd8c26f5f4eaa422d88d00637b85b55d20dd5d522e2"), looks := false }, kinds := [], alts := [], laidByText := true, laidKinds := [.data], laidTests := true, laidLooks := .later }
def FnMissingKeysCardSaid : Prop := Claim7.holds Tryd.pinned (.plain (OpenSpec.ofChange fnMissingKeysSpec)) fnMissingKeysCard

/-- THE TIED CARD OF 'laws.FnMissingKeysNone'. -/
def fnMissingKeysNoneCard : Claim7 := { stood := { row := fnMissingKeysNoneRow, standIns := [], harness := (true, "a30b8cfeeff47ceeabae5bd8c26f5f4eaa422d88d00637b85b55d20dd5d522e2"), looks := false }, kinds := [], alts := [], laidByText := true, laidKinds := [.data], laidTests := true, laidLooks := .later }
def FnMissingKeysNoneCardSaid : Prop := Claim7.holds Tryd.pinned (.plain (OpenSpec.ofChange fnMissingKeysNoneSpec)) fnMissingKeysNoneCard

/-- THE TIED CARD OF 'laws.FnExactTaskKeys'. -/
def fnExactTaskKeysCard : Claim7 := { stood := { row := fnExactTaskKeysRow, standIns := [], harness := (true, "a30b8cfeeff47ceeabae5bd8c26f5f4eaa422d88d00637b85b55d20dd5d522e2"), looks := false }, kinds := [], alts := [], laidByText := true, laidKinds := [.data], laidTests := true, laidLooks := .later }
def FnExactTaskKeysCardSaid : Prop := Claim7.holds Tryd.pinned (.plain (OpenSpec.ofChange fnExactTaskKeysSpec)) fnExactTaskKeysCard

/-- THE TIED CARD OF 'laws.FnExactMissingKeys'. -/
def fnExactMissingKeysCard : Claim7 := { stood := { row := fnExactMissingKeysRow, standIns := [], harness := (true, "a30b8cfeeff47ceeabae5bd8c26f5f4eaa422d88d00637b85b55d20dd5d522e2"), looks := false }, kinds := [], alts := [], laidByText := true, laidKinds := [.data], laidTests := true, laidLooks := .later }
def FnExactMissingKeysCardSaid : Prop := Claim7.holds Tryd.pinned (.plain (OpenSpec.ofChange fnExactMissingKeysSpec)) fnExactMissingKeysCard

/-- THE TIED CARD OF 'laws.FnExactStaleTasks'. -/
def fnExactStaleTasksCard : Claim7 := { stood := { row := fnExactStaleTasksRow, standIns := [], harness := (true, "a30b8cfeeff47ceeabae5bd8c26f5f4eaa422d88d00637b85b55d20dd5d522e2"), looks := false }, kinds := [], alts := [], laidByText := true, laidKinds := [.data], laidTests := true, laidLooks := .later }
def FnExactStaleTasksCardSaid : Prop := Claim7.holds Tryd.pinned (.plain (OpenSpec.ofChange fnExactStaleTasksSpec)) fnExactStaleTasksCard

/-- THE SECOND FORM's CARD OF 'laws.FnTaskKeysChange'. -/
def fnTaskKeysChangeUptoCard : Claim7 := { stood := { row := fnTaskKeysChangeUptoRow, standIns := [], harness := (true, "a30b8cfeeff47ceeabae5bd8c26f5f4eaa422d88d00637b85b55d20dd5d522e2"), looks := false }, kinds := [], alts := [], laidByText := true, laidKinds := [.data], laidTests := true, laidLooks := .later }
def FnTaskKeysChangeUptoCardSaid : Prop := Claim7.holds Tryd.pinned (.plain (OpenSpec.upto fnTaskKeysChangeSpec)) fnTaskKeysChangeUptoCard

/-- THE SECOND FORM's CARD OF 'laws.FnMissingKeys'. -/
def fnMissingKeysUptoCard : Claim7 := { stood := { row := fnMissingKeysUptoRow, standIns := [], harness := (true, "a30b8cfeeff47ceeabae5bd8c26f5f4eaa422d88d00637b85b55d20dd5d522e2"), looks := false }, kinds := [], alts := [], laidByText := true, laidKinds := [.data], laidTests := true, laidLooks := .later }
def FnMissingKeysUptoCardSaid : Prop := Claim7.holds Tryd.pinned (.plain (OpenSpec.upto fnMissingKeysSpec)) fnMissingKeysUptoCard

/-- THE SECOND FORM's CARD OF 'laws.FnMissingKeysNone'. -/
def fnMissingKeysNoneUptoCard : Claim7 := { stood := { row := fnMissingKeysNoneUptoRow, standIns := [], harness := (true, "a30b8cfeeff47ceeabae5bd8c26f5f4eaa422d88d00637b85b55d20dd5d522e2"), looks := false }, kinds := [], alts := [], laidByText := true, laidKinds := [.data], laidTests := true, laidLooks := .later }
def FnMissingKeysNoneUptoCardSaid : Prop := Claim7.holds Tryd.pinned (.plain (OpenSpec.upto fnMissingKeysNoneSpec)) fnMissingKeysNoneUptoCard

/-- THE SECOND FORM's CARD OF 'laws.FnExactTaskKeys'. -/
def fnExactTaskKeysUptoCard : Claim7 := { stood := { row := fnExactTaskKeysUptoRow, standIns := [], harness := (true, "a30b8cfeeff47ceeabae5bd8c26f5f4eaa422d88d00637b85b55d20dd5d522e2"), looks := false }, kinds := [], alts := [], laidByText := true, laidKinds := [.data], laidTests := true, laidLooks := .later }
def FnExactTaskKeysUptoCardSaid : Prop := Claim7.holds Tryd.pinned (.plain (OpenSpec.upto fnExactTaskKeysSpec)) fnExactTaskKeysUptoCard

/-- THE SECOND FORM's CARD OF 'laws.FnExactMissingKeys'. -/
def fnExactMissingKeysUptoCard : Claim7 := { stood := { row := fnExactMissingKeysUptoRow, standIns := [], harness := (true, "a30b8cfeeff47ceeabae5bd8c26f5f4eaa422d88d00637b85b55d20dd5d522e2"), looks := false }, kinds := [], alts := [], laidByText := true, laidKinds := [.data], laidTests := true, laidLooks := .later }
def FnExactMissingKeysUptoCardSaid : Prop := Claim7.holds Tryd.pinned (.plain (OpenSpec.upto fnExactMissingKeysSpec)) fnExactMissingKeysUptoCard

/-- THE SECOND FORM's CARD OF 'laws.FnExactStaleTasks'. -/
def fnExactStaleTasksUptoCard : Claim7 := { stood := { row := fnExactStaleTasksUptoRow, standIns := [], harness := (true, "a30b8cfeeff47ceeabae5bd8c26f5f4eaa422d88d00637b85b55d20dd5d522e2"), looks := false }, kinds := [], alts := [], laidByText := true, laidKinds := [.data], laidTests := true, laidLooks := .later }
def FnExactStaleTasksUptoCardSaid : Prop := Claim7.holds Tryd.pinned (.plain (OpenSpec.upto fnExactStaleTasksSpec)) fnExactStaleTasksUptoCard
end Rows
end Go.Proofs.YtcmhdcjdgchnfaaDoor
