/-
  NARROWER THAN 'FOR EVERY INPUT', by the rows' own cells (each row's printed sentence says how): FnExactDoneBy: laid · FnExactValidLog: laid · FnExactBusyTime: laid · FnExactMostTogether: laid.
  DERIVED. THE GIVEN ROWS OF THIS SEAT. 4 by the template 'for every input the law returns true; each argument reads behind the call as it read before'; 0 by the template 'total and deterministic' (their statements: YtkafmfabkbmpbaaDoorTotals.lean).
  GIVEN WITH THE SEED: the statements are not yours to turn. If you find one false, say at which input.
  Laid BY PROGRAM, IN A SANDBOX (cutbox-rows.mjs): the forced cells as the released guide's own fill.sh prints them over the translation 33ba50a0727a66b2… (all of the seat's roots in one cut). By AI agents, Wed Nov 11 2026. No macro, syntax, notation, axiom, sorry.
-/
import Derived.Test.YtkafmfabkbmpbaaDoorChecked
import GoSem.Claim
import GoSem.ClaimJoined
import GoSem.ClaimMapViews
import Derived.JoinedTies
import Derived.KernelRfl
namespace Go.Proofs.YtkafmfabkbmpbaaDoor
/- THE CELL 'sum', in the pinned program and in every row, IS THE sha256 OF THE DUMP (.gsa) THAT YtkafmfabkbmpbaaDoorProg.lean LOADS. Nothing in Lean hashes anything: it is a label: what it is worth is what the hold of that sum in a sandbox is worth. -/
noncomputable def Tryd.pinned : Pinned := { name := "ytkafmfabkbmpbaadoor", sum := "33ba50a0727a66b224dc6f06acff9bcfdfc93cc0bb77e993dba21033becffbcf", checked := Tryd.checked }
namespace Rows
def none {H : Type} : Left H := { results := [], args := [] }

/- WHAT THE LISTED PACKAGE-LEVEL VARIABLES READ AS WHEN THE CALL BEGINS. Each datum BY PROGRAM (the guide's laid-datum.mjs) off the statement by which the dump's own 'gosem.cut.vars' lays the variable. In a bare row this is a premise. The card (YtkafmfabkbmpbaaDoorCards.lean) ties it to the program's text. -/
def laid_math_bits_deBruijn32tab {H : Type} : DataW H := .agg [.lit (.int .u8 0), .lit (.int .u8 1), .lit (.int .u8 28), .lit (.int .u8 2), .lit (.int .u8 29), .lit (.int .u8 14), .lit (.int .u8 24), .lit (.int .u8 3), .lit (.int .u8 30), .lit (.int .u8 22), .lit (.int .u8 20), .lit (.int .u8 15), .lit (.int .u8 25), .lit (.int .u8 17), .lit (.int .u8 4), .lit (.int .u8 8), .lit (.int .u8 31), .lit (.int .u8 27), .lit (.int .u8 13), .lit (.int .u8 23), .lit (.int .u8 21), .lit (.int .u8 19), .lit (.int .u8 16), .lit (.int .u8 7), .lit (.int .u8 26), .lit (.int .u8 12), .lit (.int .u8 18), .lit (.int .u8 6), .lit (.int .u8 11), .lit (.int .u8 5), .lit (.int .u8 10), .lit (.int .u8 9)]

/-- 'laws.FnExactDoneBy': WHATEVER THE INPUT: true; the input reads as it did. -/
def fnExactDoneBySpec : ChangeSpec := { name := "fnExactDoneBy", fn := fun _ => fun
  | [d1, d2, d3] => { results := [.lit (.bool true)], args := [d1, d2, d3] }
  | _ => none }
def fnExactDoneByRow : OpenClaim := { program := "ytkafmfabkbmpbaadoor", sum := "33ba50a0727a66b224dc6f06acff9bcfdfc93cc0bb77e993dba21033becffbcf", func := "loop.example/buildscheduler/laws.FnExactDoneBy", spec := "fnExactDoneBy", unfollowed := true, recurses := true, named := ["math/bits.deBruijn32tab"], apart := false, laid := [("math/bits.deBruijn32tab", laid_math_bits_deBruijn32tab)] }
def FnExactDoneBySaid : Prop := fnExactDoneByRow.holds Tryd.pinned (OpenSpec.ofChange fnExactDoneBySpec)

/-- ITS FALSE NEIGHBOUR: 'it returns false'. Refute it at one input. -/
def fnExactDoneByWrong : ChangeSpec := { name := "fnExactDoneBy", fn := fun _ => fun
  | [d1, d2, d3] => { results := [.lit (.bool false)], args := [d1, d2, d3] }
  | _ => none }
def FnExactDoneByWrongFalsely : Prop := fnExactDoneByRow.holds Tryd.pinned (OpenSpec.ofChange fnExactDoneByWrong)

/-- 'laws.FnExactValidLog': WHATEVER THE INPUT: true; the input reads as it did. -/
def fnExactValidLogSpec : ChangeSpec := { name := "fnExactValidLog", fn := fun _ => fun
  | [d1, d2] => { results := [.lit (.bool true)], args := [d1, d2] }
  | _ => none }
def fnExactValidLogRow : OpenClaim := { program := "ytkafmfabkbmpbaadoor", sum := "33ba50a0727a66b224dc6f06acff9bcfdfc93cc0bb77e993dba21033becffbcf", func := "loop.example/buildscheduler/laws.FnExactValidLog", spec := "fnExactValidLog", unfollowed := true, recurses := true, named := ["math/bits.deBruijn32tab"], apart := false, laid := [("math/bits.deBruijn32tab", laid_math_bits_deBruijn32tab)] }
def FnExactValidLogSaid : Prop := fnExactValidLogRow.holds Tryd.pinned (OpenSpec.ofChange fnExactValidLogSpec)

/-- ITS FALSE NEIGHBOUR: 'it returns false'. Refute it at one input. -/
def fnExactValidLogWrong : ChangeSpec := { name := "fnExactValidLog", fn := fun _ => fun
  | [d1, d2] => { results := [.lit (.bool false)], args := [d1, d2] }
  | _ => none }
def FnExactValidLogWrongFalsely : Prop := fnExactValidLogRow.holds Tryd.pinned (OpenSpec.ofChange fnExactValidLogWrong)

/-- 'laws.FnExactBusyTime': WHATEVER THE INPUT: true; the input reads as it did. -/
def fnExactBusyTimeSpec : ChangeSpec := { name := "fnExactBusyTime", fn := fun _ => fun
  | [d1, d2] => { results := [.lit (.bool true)], args := [d1, d2] }
  | _ => none }
def fnExactBusyTimeRow : OpenClaim := { program := "ytkafmfabkbmpbaadoor", sum := "33ba50a0727a66b224dc6f06acff9bcfdfc93cc0bb77e993dba21033becffbcf", func := "loop.example/buildscheduler/laws.FnExactBusyTime", spec := "fnExactBusyTime", unfollowed := true, recurses := true, named := ["math/bits.deBruijn32tab"], apart := false, laid := [("math/bits.deBruijn32tab", laid_math_bits_deBruijn32tab)] }
def FnExactBusyTimeSaid : Prop := fnExactBusyTimeRow.holds Tryd.pinned (OpenSpec.ofChange fnExactBusyTimeSpec)

/-- ITS FALSE NEIGHBOUR: 'it returns false'. Refute it at one input. -/
def fnExactBusyTimeWrong : ChangeSpec := { name := "fnExactBusyTime", fn := fun _ => fun
  | [d1, d2] => { results := [.lit (.bool false)], args := [d1, d2] }
  | _ => none }
def FnExactBusyTimeWrongFalsely : Prop := fnExactBusyTimeRow.holds Tryd.pinned (OpenSpec.ofChange fnExactBusyTimeWrong)

/-- 'laws.FnExactMostTogether': WHATEVER THE INPUT: true; the input reads as it did. -/
def fnExactMostTogetherSpec : ChangeSpec := { name := "fnExactMostTogether", fn := fun _ => fun
  | [d1, d2] => { results := [.lit (.bool true)], args := [d1, d2] }
  | _ => none }
def fnExactMostTogetherRow : OpenClaim := { program := "ytkafmfabkbmpbaadoor", sum := "33ba50a0727a66b224dc6f06acff9bcfdfc93cc0bb77e993dba21033becffbcf", func := "loop.example/buildscheduler/laws.FnExactMostTogether", spec := "fnExactMostTogether", unfollowed := true, recurses := true, named := ["math/bits.deBruijn32tab"], apart := false, laid := [("math/bits.deBruijn32tab", laid_math_bits_deBruijn32tab)] }
def FnExactMostTogetherSaid : Prop := fnExactMostTogetherRow.holds Tryd.pinned (OpenSpec.ofChange fnExactMostTogetherSpec)

/-- ITS FALSE NEIGHBOUR: 'it returns false'. Refute it at one input. -/
def fnExactMostTogetherWrong : ChangeSpec := { name := "fnExactMostTogether", fn := fun _ => fun
  | [d1, d2] => { results := [.lit (.bool false)], args := [d1, d2] }
  | _ => none }
def FnExactMostTogetherWrongFalsely : Prop := fnExactMostTogetherRow.holds Tryd.pinned (OpenSpec.ofChange fnExactMostTogetherWrong)

/- THE SECOND FORM. 'bulk': how many values and letters a reading holds, each counted each time it is reached (what is shared counts as often as it is met; a slice's spare places count too). A statement '..UptoSaid' is the law's where the arguments, and the package variables that the reading takes, are together of bulk at most 1048576: NARROWER than '..Said'. Prove '..Said' where nothing that the law and all that it calls make is longer than what came in: it says more and counts as full. Else prove '..UptoSaid'. A law counts once. -/
mutual
def uptoBulk {H : Type} : DataW H → Nat
  | .lit (.string bytes) => bytes.length + 1
  | .lit _ => 1
  | .nil => 1
  | .ptr d => uptoBulk d + 1
  | .slice elems spare => uptoBulkAll elems + uptoBulkAll spare + 1
  | .agg parts => uptoBulkAll parts + 1
  | .iface _ d => uptoBulk d + 1
  | .map entries => uptoBulkEntries entries + 1
  | .held _ => 1
def uptoBulkAll {H : Type} : List (DataW H) → Nat
  | [] => 0
  | d :: r => uptoBulk d + uptoBulkAll r
def uptoBulkEntries {H : Type} : List (Lit × DataW H) → Nat
  | [] => 0
  | x :: r => uptoBulkEntry x + uptoBulkEntries r
def uptoBulkEntry {H : Type} : Lit × DataW H → Nat
  | (.string bytes, d) => bytes.length + uptoBulk d + 1
  | (_, d) => uptoBulk d + 1
 end
def uptoSmall : (H : Type) → List (DataW H) → Bool := fun _ ds => decide (uptoBulkAll ds ≤ 1048576)
def OpenSpec.upto (s : _root_.Go.ChangeSpec) : _root_.Go.OpenSpec := { _root_.Go.OpenSpec.ofChange s with cond := some uptoSmall }

/-- 'laws.FnExactDoneBy', WHERE WHAT IT READS IS OF BULK AT MOST 1048576: true; the input reads as it did. -/
def fnExactDoneByUptoRow : OpenClaim := { program := "ytkafmfabkbmpbaadoor", sum := "33ba50a0727a66b224dc6f06acff9bcfdfc93cc0bb77e993dba21033becffbcf", func := "loop.example/buildscheduler/laws.FnExactDoneBy", spec := "fnExactDoneBy", unfollowed := true, recurses := true, named := ["math/bits.deBruijn32tab"], apart := false, laid := [("math/bits.deBruijn32tab", laid_math_bits_deBruijn32tab)], narrowed := true }
def FnExactDoneByUptoSaid : Prop := fnExactDoneByUptoRow.holds Tryd.pinned (OpenSpec.upto fnExactDoneBySpec)

/-- 'laws.FnExactValidLog', WHERE WHAT IT READS IS OF BULK AT MOST 1048576: true; the input reads as it did. -/
def fnExactValidLogUptoRow : OpenClaim := { program := "ytkafmfabkbmpbaadoor", sum := "33ba50a0727a66b224dc6f06acff9bcfdfc93cc0bb77e993dba21033becffbcf", func := "loop.example/buildscheduler/laws.FnExactValidLog", spec := "fnExactValidLog", unfollowed := true, recurses := true, named := ["math/bits.deBruijn32tab"], apart := false, laid := [("math/bits.deBruijn32tab", laid_math_bits_deBruijn32tab)], narrowed := true }
def FnExactValidLogUptoSaid : Prop := fnExactValidLogUptoRow.holds Tryd.pinned (OpenSpec.upto fnExactValidLogSpec)

/-- 'laws.FnExactBusyTime', WHERE WHAT IT READS IS OF BULK AT MOST 1048576: true; the input reads as it did. -/
def fnExactBusyTimeUptoRow : OpenClaim := { program := "ytkafmfabkbmpbaadoor", sum := "33ba50a0727a66b224dc6f06acff9bcfdfc93cc0bb77e993dba21033becffbcf", func := "loop.example/buildscheduler/laws.FnExactBusyTime", spec := "fnExactBusyTime", unfollowed := true, recurses := true, named := ["math/bits.deBruijn32tab"], apart := false, laid := [("math/bits.deBruijn32tab", laid_math_bits_deBruijn32tab)], narrowed := true }
def FnExactBusyTimeUptoSaid : Prop := fnExactBusyTimeUptoRow.holds Tryd.pinned (OpenSpec.upto fnExactBusyTimeSpec)

/-- 'laws.FnExactMostTogether', WHERE WHAT IT READS IS OF BULK AT MOST 1048576: true; the input reads as it did. -/
def fnExactMostTogetherUptoRow : OpenClaim := { program := "ytkafmfabkbmpbaadoor", sum := "33ba50a0727a66b224dc6f06acff9bcfdfc93cc0bb77e993dba21033becffbcf", func := "loop.example/buildscheduler/laws.FnExactMostTogether", spec := "fnExactMostTogether", unfollowed := true, recurses := true, named := ["math/bits.deBruijn32tab"], apart := false, laid := [("math/bits.deBruijn32tab", laid_math_bits_deBruijn32tab)], narrowed := true }
def FnExactMostTogetherUptoSaid : Prop := fnExactMostTogetherUptoRow.holds Tryd.pinned (OpenSpec.upto fnExactMostTogetherSpec)

end Rows
end Go.Proofs.YtkafmfabkbmpbaaDoor
