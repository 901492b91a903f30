/-
  DERIVED. GIVEN WITH THE SEED: THE CARDS: each row of YtkafmfabkbmpbaaDoorRows.lean that lists a variable, with what it lists TIED to the program's text (the seventh form; the later family's looks); each row that meets fmt, with fmt's text TOLD by the authors' own Lean function (tested against real Go, not proved from fmt's source: count such statements apart). THE CARD IS WHAT COUNTS. Prove the row's statement (the work); the ties are given (YtkafmfabkbmpbaaDoorTie.lean); close each card by the builder's one call (the guide's Derived/Test/ToyasCard.lean, 'card_holds'). Laid BY PROGRAM, IN A SANDBOX (cutbox-door.mjs). By AI agents, Wed Nov 11 2026. No macro, syntax, notation, axiom, sorry.
-/
import Derived.Test.YtkafmfabkbmpbaaDoorRows
import GoSem.ClaimSeven
namespace Go.Proofs.YtkafmfabkbmpbaaDoor
namespace Rows

/-- THE TIED CARD OF 'laws.FnExactDoneBy'. -/
def fnExactDoneByCard : Claim7 := { stood := { row := fnExactDoneByRow, standIns := [], harness := (true, "d632421aeb7b76973f819a3e15a946ef74ea642a726d2290c6e5694b7dabab4d"), looks := false }, kinds := [], alts := [], laidByText := true, laidKinds := [.data], laidTests := true, laidLooks := .later }
def FnExactDoneByCardSaid : Prop := Claim7.holds Tryd.pinned (.plain (OpenSpec.ofChange fnExactDoneBySpec)) fnExactDoneByCard

/-- THE TIED CARD OF 'laws.FnExactValidLog'. -/
def fnExactValidLogCard : Claim7 := { stood := { row := fnExactValidLogRow, standIns := [], harness := (true, "d632421aeb7b76973f819a3e15a946ef74ea642a726d2290c6e5694b7dabab4d"), looks := false }, kinds := [], alts := [], laidByText := true, laidKinds := [.data], laidTests := true, laidLooks := .later }
def FnExactValidLogCardSaid : Prop := Claim7.holds Tryd.pinned (.plain (OpenSpec.ofChange fnExactValidLogSpec)) fnExactValidLogCard

/-- THE TIED CARD OF 'laws.FnExactBusyTime'. -/
def fnExactBusyTimeCard : Claim7 := { stood := { row := fnExactBusyTimeRow, standIns := [], harness := (true, "d632421aeb7b76973f819a3e15a946ef74ea642a726d2290c6e5694b7dabab4d"), looks := false }, kinds := [], alts := [], laidByText := true, laidKinds := [.data], laidTests := true, laidLooks := .later }
def FnExactBusyTimeCardSaid : Prop := Claim7.holds Tryd.pinned (.plain (OpenSpec.ofChange fnExactBusyTimeSpec)) fnExactBusyTimeCard

/-- THE TIED CARD OF 'laws.FnExactMostTogether'. -/
def fnExactMostTogetherCard : Claim7 := { stood := { row := fnExactMostTogetherRow, standIns := [], harness := (true, "d632421aeb7b76973f819a3e15a946ef74ea642a726d2290c6e5694b7dabab4d"), looks := false }, kinds := [], alts := [], laidByText := true, laidKinds := [.data], laidTests := true, laidLooks := .later }
def FnExactMostTogetherCardSaid : Prop := Claim7.holds Tryd.pinned (.plain (OpenSpec.ofChange fnExactMostTogetherSpec)) fnExactMostTogetherCard

/-- THE SECOND FORM's CARD OF 'laws.FnExactDoneBy'. -/
def fnExactDoneByUptoCard : Claim7 := { stood := { row := fnExactDoneByUptoRow, standIns := [], harness := (true, "d632421aeb7b76973f819a3e15a946ef74ea642a726d2290c6e5694b7dabab4d"), looks := false }, kinds := [], alts := [], laidByText := true, laidKinds := [.data], laidTests := true, laidLooks := .later }
def FnExactDoneByUptoCardSaid : Prop := Claim7.holds Tryd.pinned (.plain (OpenSpec.upto fnExactDoneBySpec)) fnExactDoneByUptoCard

/-- THE SECOND FORM's CARD OF 'laws.FnExactValidLog'. -/
def fnExactValidLogUptoCard : Claim7 := { stood := { row := fnExactValidLogUptoRow, standIns := [], harness := (true, "d632421aeb7b76973f819a3e15a946ef74ea642a726d2290c6e5694b7dabab4d"), looks := false }, kinds := [], alts := [], laidByText := true, laidKinds := [.data], laidTests := true, laidLooks := .later }
def FnExactValidLogUptoCardSaid : Prop := Claim7.holds Tryd.pinned (.plain (OpenSpec.upto fnExactValidLogSpec)) fnExactValidLogUptoCard

/-- THE SECOND FORM's CARD OF 'laws.FnExactBusyTime'. -/
def fnExactBusyTimeUptoCard : Claim7 := { stood := { row := fnExactBusyTimeUptoRow, standIns := [], harness := (true, "d632421aeb7b76973f819a3e15a946ef74ea642a726d2290c6e5694b7dabab4d"), looks := false }, kinds := [], alts := [], laidByText := true, laidKinds := [.data], laidTests := true, laidLooks := .later }
def FnExactBusyTimeUptoCardSaid : Prop := Claim7.holds Tryd.pinned (.plain (OpenSpec.upto fnExactBusyTimeSpec)) fnExactBusyTimeUptoCard

/-- THE SECOND FORM's CARD OF 'laws.FnExactMostTogether'. -/
def fnExactMostTogetherUptoCard : Claim7 := { stood := { row := fnExactMostTogetherUptoRow, standIns := [], harness := (true, "d632421aeb7b76973f819a3e15a946ef74ea642a726d2290c6e5694b7dabab4d"), looks := false }, kinds := [], alts := [], laidByText := true, laidKinds := [.data], laidTests := true, laidLooks := .later }
def FnExactMostTogetherUptoCardSaid : Prop := Claim7.holds Tryd.pinned (.plain (OpenSpec.upto fnExactMostTogetherSpec)) fnExactMostTogetherUptoCard
end Rows
end Go.Proofs.YtkafmfabkbmpbaaDoor
