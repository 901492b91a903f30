/-
  DERIVED. GIVEN WITH THE SEED: THE CARDS: each row of YtgdoajmgheokbaaDoorRows.lean that lists a variable, with what it lists TIED to the program's text (the seventh form; the later family's looks); each row that meets fmt, with fmt's text TOLD by the authors' own Lean function (tested against real Go, not proved from fmt's source: count such statements apart). THE CARD IS WHAT COUNTS. Prove the row's statement (the work); the ties are given (YtgdoajmgheokbaaDoorTie.lean); close each card by the builder's one call (the guide's Derived/Test/ToyasCard.lean, 'card_holds'). Laid BY PROGRAM, IN A SANDBOX (cutbox-door.mjs). By AI agents, Wed Nov 11 2026. No macro, syntax, notation, axiom, sorry.
-/
import Derived.Test.YtgdoajmgheokbaaDoorRows
import GoSem.ClaimSeven
namespace Go.Proofs.YtgdoajmgheokbaaDoor
namespace Rows

/-- THE TIED CARD OF 'laws.FnStaleTasksDone'. -/
def fnStaleTasksDoneCard : Claim7 := { stood := { row := fnStaleTasksDoneRow, standIns := [], harness := (true, "b03a33281b3c06eb8638f6b4aada6502f6ff3764f0466f3f68167d997e7a6279"), looks := false }, kinds := [], alts := [], laidByText := true, laidKinds := [.data], laidTests := true, laidLooks := .later }
def FnStaleTasksDoneCardSaid : Prop := Claim7.holds Tryd.pinned (.plain (OpenSpec.ofChange fnStaleTasksDoneSpec)) fnStaleTasksDoneCard

/-- THE TIED CARD OF 'laws.FnTaskKeysChange'. -/
def fnTaskKeysChangeCard : Claim7 := { stood := { row := fnTaskKeysChangeRow, standIns := [], harness := (true, "b03a33281b3c06eb8638f6b4aada6502f6ff3764f0466f3f68167d997e7a6279"), looks := false }, kinds := [], alts := [], laidByText := true, laidKinds := [.data], laidTests := true, laidLooks := .later }
def FnTaskKeysChangeCardSaid : Prop := Claim7.holds Tryd.pinned (.plain (OpenSpec.ofChange fnTaskKeysChangeSpec)) fnTaskKeysChangeCard

/-- THE TIED CARD OF 'laws.FnMissingKeysStale'. -/
def fnMissingKeysStaleCard : Claim7 := { stood := { row := fnMissingKeysStaleRow, standIns := [], harness := (true, "b03a33281b3c06eb8638f6b4aada6502f6ff3764f0466f3f68167d997e7a6279"), looks := false }, kinds := [], alts := [], laidByText := true, laidKinds := [.data], laidTests := true, laidLooks := .later }
def FnMissingKeysStaleCardSaid : Prop := Claim7.holds Tryd.pinned (.plain (OpenSpec.ofChange fnMissingKeysStaleSpec)) fnMissingKeysStaleCard

/-- THE TIED CARD OF 'laws.FnOutcomesUsers'. -/
def fnOutcomesUsersCard : Claim7 := { stood := { row := fnOutcomesUsersRow, standIns := [], harness := (true, "b03a33281b3c06eb8638f6b4aada6502f6ff3764f0466f3f68167d997e7a6279"), looks := false }, kinds := [], alts := [], laidByText := true, laidKinds := [.data], laidTests := true, laidLooks := .later }
def FnOutcomesUsersCardSaid : Prop := Claim7.holds Tryd.pinned (.plain (OpenSpec.ofChange fnOutcomesUsersSpec)) fnOutcomesUsersCard

/-- THE TIED CARD OF 'laws.FnCountOutcomeDone'. -/
def fnCountOutcomeDoneCard : Claim7 := { stood := { row := fnCountOutcomeDoneRow, standIns := [], harness := (true, "b03a33281b3c06eb8638f6b4aada6502f6ff3764f0466f3f68167d997e7a6279"), looks := false }, kinds := [], alts := [], laidByText := true, laidKinds := [.data], laidTests := true, laidLooks := .later }
def FnCountOutcomeDoneCardSaid : Prop := Claim7.holds Tryd.pinned (.plain (OpenSpec.ofChange fnCountOutcomeDoneSpec)) fnCountOutcomeDoneCard

/-- THE TIED CARD OF 'laws.FnExactProgressOf'. -/
def fnExactProgressOfCard : Claim7 := { stood := { row := fnExactProgressOfRow, standIns := [], harness := (true, "b03a33281b3c06eb8638f6b4aada6502f6ff3764f0466f3f68167d997e7a6279"), looks := false }, kinds := [], alts := [], laidByText := true, laidKinds := [.data], laidTests := true, laidLooks := .later }
def FnExactProgressOfCardSaid : Prop := Claim7.holds Tryd.pinned (.plain (OpenSpec.ofChange fnExactProgressOfSpec)) fnExactProgressOfCard

/-- THE SECOND FORM's CARD OF 'laws.FnStaleTasksDone'. -/
def fnStaleTasksDoneUptoCard : Claim7 := { stood := { row := fnStaleTasksDoneUptoRow, standIns := [], harness := (true, "b03a33281b3c06eb8638f6b4aada6502f6ff3764f0466f3f68167d997e7a6279"), looks := false }, kinds := [], alts := [], laidByText := true, laidKinds := [.data], laidTests := true, laidLooks := .later }
def FnStaleTasksDoneUptoCardSaid : Prop := Claim7.holds Tryd.pinned (.plain (OpenSpec.upto fnStaleTasksDoneSpec)) fnStaleTasksDoneUptoCard

/-- THE SECOND FORM's CARD OF 'laws.FnTaskKeysChange'. -/
def fnTaskKeysChangeUptoCard : Claim7 := { stood := { row := fnTaskKeysChangeUptoRow, standIns := [], harness := (true, "b03a33281b3c06eb8638f6b4aada6502f6ff3764f0466f3f68167d997e7a6279"), looks := false }, kinds := [], alts := [], laidByText := true, laidKinds := [.data], laidTests := true, laidLooks := .later }
def FnTaskKeysChangeUptoCardSaid : Prop := Claim7.holds Tryd.pinned (.plain (OpenSpec.upto fnTaskKeysChangeSpec)) fnTaskKeysChangeUptoCard

/-- THE SECOND FORM's CARD OF 'laws.FnMissingKeysStale'. -/
def fnMissingKeysStaleUptoCard : Claim7 := { stood := { row := fnMissingKeysStaleUptoRow, standIns := [], harness := (true, "b03a33281b3c06eb8638f6b4aada6502f6ff3764f0466f3f68167d997e7a6279"), looks := false }, kinds := [], alts := [], laidByText := true, laidKinds := [.data], laidTests := true, laidLooks := .later }
def FnMissingKeysStaleUptoCardSaid : Prop := Claim7.holds Tryd.pinned (.plain (OpenSpec.upto fnMissingKeysStaleSpec)) fnMissingKeysStaleUptoCard

/-- THE SECOND FORM's CARD OF 'laws.FnOutcomesUsers'. -/
def fnOutcomesUsersUptoCard : Claim7 := { stood := { row := fnOutcomesUsersUptoRow, standIns := [], harness := (true, "b03a33281b3c06eb8638f6b4aada6502f6ff3764f0466f3f68167d997e7a6279"), looks := false }, kinds := [], alts := [], laidByText := true, laidKinds := [.data], laidTests := true, laidLooks := .later }
def FnOutcomesUsersUptoCardSaid : Prop := Claim7.holds Tryd.pinned (.plain (OpenSpec.upto fnOutcomesUsersSpec)) fnOutcomesUsersUptoCard

/-- THE SECOND FORM's CARD OF 'laws.FnCountOutcomeDone'. -/
def fnCountOutcomeDoneUptoCard : Claim7 := { stood := { row := fnCountOutcomeDoneUptoRow, standIns := [], harness := (true, "b03a33281b3c06eb8638f6b4aada6502f6ff3764f0466f3f68167d997e7a6279"), looks := false }, kinds := [], alts := [], laidByText := true, laidKinds := [.data], laidTests := true, laidLooks := .later }
def FnCountOutcomeDoneUptoCardSaid : Prop := Claim7.holds Tryd.pinned (.plain (OpenSpec.upto fnCountOutcomeDoneSpec)) fnCountOutcomeDoneUptoCard

/-- THE SECOND FORM's CARD OF 'laws.FnExactProgressOf'. -/
def fnExactProgressOfUptoCard : Claim7 := { stood := { row := fnExactProgressOfUptoRow, standIns := [], harness := (true, "b03a33281b3c06eb8638f6b4aada6502f6ff3764f0466f3f68167d997e7a6279"), looks := false }, kinds := [], alts := [], laidByText := true, laidKinds := [.data], laidTests := true, laidLooks := .later }
def FnExactProgressOfUptoCardSaid : Prop := Claim7.holds Tryd.pinned (.plain (OpenSpec.upto fnExactProgressOfSpec)) fnExactProgressOfUptoCard
end Rows
end Go.Proofs.YtgdoajmgheokbaaDoor
