/-
  DERIVED. GIVEN WITH THE SEED: THE CARDS: each row of YtdihblbfafhhnaaDoorRows.lean that lists a variable, with what it lists TIED to the program's text (the seventh form; the later family's looks); each row that meets fmt, with fmt's text TOLD by the authors' own Lean function (tested against real Go, not proved from fmt's source: count such statements apart). THE CARD IS WHAT COUNTS. Prove the row's statement (the work); the ties are given (YtdihblbfafhhnaaDoorTie.lean); close each card by the builder's one call (the guide's Derived/Test/ToyasCard.lean, 'card_holds'). Laid BY PROGRAM, IN A SANDBOX (cutbox-door.mjs). By AI agents, Wed Nov 11 2026. No macro, syntax, notation, axiom, sorry.
-/
import Derived.Test.YtdihblbfafhhnaaDoorRows
import GoSem.ClaimSeven
namespace Go.Proofs.YtdihblbfafhhnaaDoor
namespace Rows

/-- THE TIED CARD OF 'laws.FnTaskKeys'. -/
def fnTaskKeysCard : Claim7 := { stood := { row := fnTaskKeysRow, standIns := [], harness := (true, "7ecff3caca892db986d4ac8bc90998c41be8a2c085cd78c81c6aa6db27970aa8"), looks := false }, kinds := [], alts := [], laidByText := true, laidKinds := [.data], laidTests := true, laidLooks := .later }
def FnTaskKeysCardSaid : Prop := Claim7.holds Tryd.pinned (.plain (OpenSpec.ofChange fnTaskKeysSpec)) fnTaskKeysCard

/-- THE TIED CARD OF 'laws.FnTaskKeysEqual'. -/
def fnTaskKeysEqualCard : Claim7 := { stood := { row := fnTaskKeysEqualRow, standIns := [], harness := (true, "7ecff3caca892db986d4ac8bc90998c41be8a2c085cd78c81c6aa6db27970aa8"), looks := false }, kinds := [], alts := [], laidByText := true, laidKinds := [.data], laidTests := true, laidLooks := .later }
def FnTaskKeysEqualCardSaid : Prop := Claim7.holds Tryd.pinned (.plain (OpenSpec.ofChange fnTaskKeysEqualSpec)) fnTaskKeysEqualCard

/-- THE TIED CARD OF 'laws.FnExactTaskKeys'. -/
def fnExactTaskKeysCard : Claim7 := { stood := { row := fnExactTaskKeysRow, standIns := [], harness := (true, "7ecff3caca892db986d4ac8bc90998c41be8a2c085cd78c81c6aa6db27970aa8"), looks := false }, kinds := [], alts := [], laidByText := true, laidKinds := [.data], laidTests := true, laidLooks := .later }
def FnExactTaskKeysCardSaid : Prop := Claim7.holds Tryd.pinned (.plain (OpenSpec.ofChange fnExactTaskKeysSpec)) fnExactTaskKeysCard

/-- THE TIED CARD OF 'laws.FnExactMissingKeys'. -/
def fnExactMissingKeysCard : Claim7 := { stood := { row := fnExactMissingKeysRow, standIns := [], harness := (true, "7ecff3caca892db986d4ac8bc90998c41be8a2c085cd78c81c6aa6db27970aa8"), looks := false }, kinds := [], alts := [], laidByText := true, laidKinds := [.data], laidTests := true, laidLooks := .later }
def FnExactMissingKeysCardSaid : Prop := Claim7.holds Tryd.pinned (.plain (OpenSpec.ofChange fnExactMissingKeysSpec)) fnExactMissingKeysCard

/-- THE TIED CARD OF 'laws.FnMissingKeysNone'. -/
def fnMissingKeysNoneCard : Claim7 := { stood := { row := fnMissingKeysNoneRow, standIns := [], harness := (true, "7ecff3caca892db986d4ac8bc90998c41be8a2c085cd78c81c6aa6db27970aa8"), looks := false }, kinds := [], alts := [], laidByText := true, laidKinds := [.data], laidTests := true, laidLooks := .later }
def FnMissingKeysNoneCardSaid : Prop := Claim7.holds Tryd.pinned (.plain (OpenSpec.ofChange fnMissingKeysNoneSpec)) fnMissingKeysNoneCard

/-- THE TIED CARD OF 'laws.FnMissingKeys'. -/
def fnMissingKeysCard : Claim7 := { stood := { row := fnMissingKeysRow, standIns := [], harness := (true, "7ecff3caca892db986d4ac8bc90998c41be8a2c085cd78c81c6aa6db27970aa8"), looks := false }, kinds := [], alts := [], laidByText := true, laidKinds := [.data], laidTests := true, laidLooks := .later }
def FnMissingKeysCardSaid : Prop := Claim7.holds Tryd.pinned (.plain (OpenSpec.ofChange fnMissingKeysSpec)) fnMissingKeysCard

/-- THE SECOND FORM's CARD OF 'laws.FnTaskKeys'. -/
def fnTaskKeysUptoCard : Claim7 := { stood := { row := fnTaskKeysUptoRow, standIns := [], harness := (true, "7ecff3caca892db986d4ac8bc90998c41be8a2c085cd78c81c6aa6db27970aa8"), looks := false }, kinds := [], alts := [], laidByText := true, laidKinds := [.data], laidTests := true, laidLooks := .later }
def FnTaskKeysUptoCardSaid : Prop := Claim7.holds Tryd.pinned (.plain (OpenSpec.upto fnTaskKeysSpec)) fnTaskKeysUptoCard

/-- THE SECOND FORM's CARD OF 'laws.FnTaskKeysEqual'. -/
def fnTaskKeysEqualUptoCard : Claim7 := { stood := { row := fnTaskKeysEqualUptoRow, standIns := [], harness := (true, "7ecff3caca892db986d4ac8bc90998c41be8a2c085cd78c81c6aa6db27970aa8"), looks := false }, kinds := [], alts := [], laidByText := true, laidKinds := [.data], laidTests := true, laidLooks := .later }
def FnTaskKeysEqualUptoCardSaid : Prop := Claim7.holds Tryd.pinned (.plain (OpenSpec.upto fnTaskKeysEqualSpec)) fnTaskKeysEqualUptoCard

/-- THE SECOND FORM's CARD OF 'laws.FnExactTaskKeys'. -/
def fnExactTaskKeysUptoCard : Claim7 := { stood := { row := fnExactTaskKeysUptoRow, standIns := [], harness := (true, "7ecff3caca892db986d4ac8bc90998c41be8a2c085cd78c81c6aa6db27970aa8"), looks := false }, kinds := [], alts := [], laidByText := true, laidKinds := [.data], laidTests := true, laidLooks := .later }
def FnExactTaskKeysUptoCardSaid : Prop := Claim7.holds Tryd.pinned (.plain (OpenSpec.upto fnExactTaskKeysSpec)) fnExactTaskKeysUptoCard

/-- THE SECOND FORM's CARD OF 'laws.FnExactMissingKeys'. -/
def fnExactMissingKeysUptoCard : Claim7 := { stood := { row := fnExactMissingKeysUptoRow, standIns := [], harness := (true, "7ecff3caca892db986d4ac8bc90998c41be8a2c085cd78c81c6aa6db27970aa8"), looks := false }, kinds := [], alts := [], laidByText := true, laidKinds := [.data], laidTests := true, laidLooks := .later }
def FnExactMissingKeysUptoCardSaid : Prop := Claim7.holds Tryd.pinned (.plain (OpenSpec.upto fnExactMissingKeysSpec)) fnExactMissingKeysUptoCard

/-- THE SECOND FORM's CARD OF 'laws.FnMissingKeysNone'. -/
def fnMissingKeysNoneUptoCard : Claim7 := { stood := { row := fnMissingKeysNoneUptoRow, standIns := [], harness := (true, "7ecff3caca892db986d4ac8bc90998c41be8a2c085cd78c81c6aa6db27970aa8"), looks := false }, kinds := [], alts := [], laidByText := true, laidKinds := [.data], laidTests := true, laidLooks := .later }
def FnMissingKeysNoneUptoCardSaid : Prop := Claim7.holds Tryd.pinned (.plain (OpenSpec.upto fnMissingKeysNoneSpec)) fnMissingKeysNoneUptoCard

/-- THE SECOND FORM's CARD OF 'laws.FnMissingKeys'. -/
def fnMissingKeysUptoCard : Claim7 := { stood := { row := fnMissingKeysUptoRow, standIns := [], harness := (true, "7ecff3caca892db986d4ac8bc90998c41be8a2c085cd78c81c6aa6db27970aa8"), looks := false }, kinds := [], alts := [], laidByText := true, laidKinds := [.data], laidTests := true, laidLooks := .later }
def FnMissingKeysUptoCardSaid : Prop := Claim7.holds Tryd.pinned (.plain (OpenSpec.upto fnMissingKeysSpec)) fnMissingKeysUptoCard
end Rows
end Go.Proofs.YtdihblbfafhhnaaDoor
