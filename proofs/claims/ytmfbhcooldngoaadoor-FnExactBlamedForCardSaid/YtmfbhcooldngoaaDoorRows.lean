/-
  NARROWER THAN 'FOR EVERY INPUT', by the rows' own cells (each row's printed sentence says how): FnBlamedFor: laid · FnExactBlamedFor: laid · FnBlamedForSelf: laid · FnOutcomesKeep: laid · FnOutcomesFirst: laid · FnOutcomesNone: laid · FnOutcomes: laid.
  DERIVED. THE GIVEN ROWS OF THIS SEAT. 7 by the template 'for every input the law returns true; each argument reads behind the call as it read before'; 0 by the template 'total and deterministic' (their statements: YtmfbhcooldngoaaDoorTotals.lean).
  GIVEN WITH THE SEED: the statements are not yours to turn. If you find one false, say at which input.
  Laid BY PROGRAM, IN A SANDBOX (cutbox-rows.mjs): the forced cells as the released guide's own fill.sh prints them over the translation 7a6d30d4cbc13382… (all of the seat's roots in one cut). By AI agents, Wed Nov 11 2026. No macro, syntax, notation, axiom, sorry.
-/
import Derived.Test.YtmfbhcooldngoaaDoorChecked
import GoSem.Claim
import GoSem.ClaimJoined
import GoSem.ClaimMapViews
import Derived.JoinedTies
import Derived.KernelRfl
namespace Go.Proofs.YtmfbhcooldngoaaDoor
/- THE CELL 'sum', in the pinned program and in every row, IS THE sha256 OF THE DUMP (.gsa) THAT YtmfbhcooldngoaaDoorProg.lean LOADS. Nothing in Lean hashes anything: it is a label: what it is worth is what the hold of that sum in a sandbox is worth. -/
noncomputable def Tryd.pinned : Pinned := { name := "ytmfbhcooldngoaadoor", sum := "7a6d30d4cbc1338266430b7fecf78db1058b566954130daffc4c58df9a75707d", checked := Tryd.checked }
namespace Rows
def none {H : Type} : Left H := { results := [], args := [] }

/- WHAT THE LISTED PACKAGE-LEVEL VARIABLES READ AS WHEN THE CALL BEGINS. Each datum BY PROGRAM (the guide's laid-datum.mjs) off the statement by which the dump's own 'gosem.cut.vars' lays the variable. In a bare row this is a premise. The card (YtmfbhcooldngoaaDoorCards.lean) ties it to the program's text. -/
def laid_math_bits_deBruijn32tab {H : Type} : DataW H := .agg [.lit (.int .u8 0), .lit (.int .u8 1), .lit (.int .u8 28), .lit (.int .u8 2), .lit (.int .u8 29), .lit (.int .u8 14), .lit (.int .u8 24), .lit (.int .u8 3), .lit (.int .u8 30), .lit (.int .u8 22), .lit (.int .u8 20), .lit (.int .u8 15), .lit (.int .u8 25), .lit (.int .u8 17), .lit (.int .u8 4), .lit (.int .u8 8), .lit (.int .u8 31), .lit (.int .u8 27), .lit (.int .u8 13), .lit (.int .u8 23), .lit (.int .u8 21), .lit (.int .u8 19), .lit (.int .u8 16), .lit (.int .u8 7), .lit (.int .u8 26), .lit (.int .u8 12), .lit (.int .u8 18), .lit (.int .u8 6), .lit (.int .u8 11), .lit (.int .u8 5), .lit (.int .u8 10), .lit (.int .u8 9)]

/-- 'laws.FnBlamedFor': WHATEVER THE INPUT: true; the input reads as it did. -/
def fnBlamedForSpec : ChangeSpec := { name := "fnBlamedFor", fn := fun _ => fun
  | [d] => { results := [.lit (.bool true)], args := [d] }
  | _ => none }
def fnBlamedForRow : OpenClaim := { program := "ytmfbhcooldngoaadoor", sum := "7a6d30d4cbc1338266430b7fecf78db1058b566954130daffc4c58df9a75707d", func := "loop.example/buildscheduler/laws.FnBlamedFor", spec := "fnBlamedFor", unfollowed := true, recurses := true, named := ["math/bits.deBruijn32tab"], apart := false, laid := [("math/bits.deBruijn32tab", laid_math_bits_deBruijn32tab)] }
def FnBlamedForSaid : Prop := fnBlamedForRow.holds Tryd.pinned (OpenSpec.ofChange fnBlamedForSpec)

/-- ITS FALSE NEIGHBOUR: 'it returns false'. Refute it at one input. -/
def fnBlamedForWrong : ChangeSpec := { name := "fnBlamedFor", fn := fun _ => fun
  | [d] => { results := [.lit (.bool false)], args := [d] }
  | _ => none }
def FnBlamedForWrongFalsely : Prop := fnBlamedForRow.holds Tryd.pinned (OpenSpec.ofChange fnBlamedForWrong)

/-- 'laws.FnExactBlamedFor': WHATEVER THE INPUT: true; the input reads as it did. -/
def fnExactBlamedForSpec : ChangeSpec := { name := "fnExactBlamedFor", fn := fun _ => fun
  | [d1, d2, d3] => { results := [.lit (.bool true)], args := [d1, d2, d3] }
  | _ => none }
def fnExactBlamedForRow : OpenClaim := { program := "ytmfbhcooldngoaadoor", sum := "7a6d30d4cbc1338266430b7fecf78db1058b566954130daffc4c58df9a75707d", func := "loop.example/buildscheduler/laws.FnExactBlamedFor", spec := "fnExactBlamedFor", unfollowed := true, recurses := true, named := ["math/bits.deBruijn32tab"], apart := false, laid := [("math/bits.deBruijn32tab", laid_math_bits_deBruijn32tab)] }
def FnExactBlamedForSaid : Prop := fnExactBlamedForRow.holds Tryd.pinned (OpenSpec.ofChange fnExactBlamedForSpec)

/-- ITS FALSE NEIGHBOUR: 'it returns false'. Refute it at one input. -/
def fnExactBlamedForWrong : ChangeSpec := { name := "fnExactBlamedFor", fn := fun _ => fun
  | [d1, d2, d3] => { results := [.lit (.bool false)], args := [d1, d2, d3] }
  | _ => none }
def FnExactBlamedForWrongFalsely : Prop := fnExactBlamedForRow.holds Tryd.pinned (OpenSpec.ofChange fnExactBlamedForWrong)

/-- 'laws.FnBlamedForSelf': WHATEVER THE INPUT: true; the input reads as it did. -/
def fnBlamedForSelfSpec : ChangeSpec := { name := "fnBlamedForSelf", fn := fun _ => fun
  | [d] => { results := [.lit (.bool true)], args := [d] }
  | _ => none }
def fnBlamedForSelfRow : OpenClaim := { program := "ytmfbhcooldngoaadoor", sum := "7a6d30d4cbc1338266430b7fecf78db1058b566954130daffc4c58df9a75707d", func := "loop.example/buildscheduler/laws.FnBlamedForSelf", spec := "fnBlamedForSelf", unfollowed := true, recurses := true, named := ["math/bits.deBruijn32tab"], apart := false, laid := [("math/bits.deBruijn32tab", laid_math_bits_deBruijn32tab)] }
def FnBlamedForSelfSaid : Prop := fnBlamedForSelfRow.holds Tryd.pinned (OpenSpec.ofChange fnBlamedForSelfSpec)

/-- ITS FALSE NEIGHBOUR: 'it returns false'. Refute it at one input. -/
def fnBlamedForSelfWrong : ChangeSpec := { name := "fnBlamedForSelf", fn := fun _ => fun
  | [d] => { results := [.lit (.bool false)], args := [d] }
  | _ => none }
def FnBlamedForSelfWrongFalsely : Prop := fnBlamedForSelfRow.holds Tryd.pinned (OpenSpec.ofChange fnBlamedForSelfWrong)

/-- 'laws.FnOutcomesKeep': WHATEVER THE INPUT: true; the input reads as it did. -/
def fnOutcomesKeepSpec : ChangeSpec := { name := "fnOutcomesKeep", fn := fun _ => fun
  | [d] => { results := [.lit (.bool true)], args := [d] }
  | _ => none }
def fnOutcomesKeepRow : OpenClaim := { program := "ytmfbhcooldngoaadoor", sum := "7a6d30d4cbc1338266430b7fecf78db1058b566954130daffc4c58df9a75707d", func := "loop.example/buildscheduler/laws.FnOutcomesKeep", spec := "fnOutcomesKeep", unfollowed := true, recurses := true, named := ["math/bits.deBruijn32tab"], apart := false, laid := [("math/bits.deBruijn32tab", laid_math_bits_deBruijn32tab)] }
def FnOutcomesKeepSaid : Prop := fnOutcomesKeepRow.holds Tryd.pinned (OpenSpec.ofChange fnOutcomesKeepSpec)

/-- ITS FALSE NEIGHBOUR: 'it returns false'. Refute it at one input. -/
def fnOutcomesKeepWrong : ChangeSpec := { name := "fnOutcomesKeep", fn := fun _ => fun
  | [d] => { results := [.lit (.bool false)], args := [d] }
  | _ => none }
def FnOutcomesKeepWrongFalsely : Prop := fnOutcomesKeepRow.holds Tryd.pinned (OpenSpec.ofChange fnOutcomesKeepWrong)

/-- 'laws.FnOutcomesFirst': WHATEVER THE INPUT: true; the input reads as it did. -/
def fnOutcomesFirstSpec : ChangeSpec := { name := "fnOutcomesFirst", fn := fun _ => fun
  | [d] => { results := [.lit (.bool true)], args := [d] }
  | _ => none }
def fnOutcomesFirstRow : OpenClaim := { program := "ytmfbhcooldngoaadoor", sum := "7a6d30d4cbc1338266430b7fecf78db1058b566954130daffc4c58df9a75707d", func := "loop.example/buildscheduler/laws.FnOutcomesFirst", spec := "fnOutcomesFirst", unfollowed := true, recurses := true, named := ["math/bits.deBruijn32tab"], apart := false, laid := [("math/bits.deBruijn32tab", laid_math_bits_deBruijn32tab)] }
def FnOutcomesFirstSaid : Prop := fnOutcomesFirstRow.holds Tryd.pinned (OpenSpec.ofChange fnOutcomesFirstSpec)

/-- ITS FALSE NEIGHBOUR: 'it returns false'. Refute it at one input. -/
def fnOutcomesFirstWrong : ChangeSpec := { name := "fnOutcomesFirst", fn := fun _ => fun
  | [d] => { results := [.lit (.bool false)], args := [d] }
  | _ => none }
def FnOutcomesFirstWrongFalsely : Prop := fnOutcomesFirstRow.holds Tryd.pinned (OpenSpec.ofChange fnOutcomesFirstWrong)

/-- 'laws.FnOutcomesNone': WHATEVER THE INPUT: true; the input reads as it did. -/
def fnOutcomesNoneSpec : ChangeSpec := { name := "fnOutcomesNone", fn := fun _ => fun
  | [d] => { results := [.lit (.bool true)], args := [d] }
  | _ => none }
def fnOutcomesNoneRow : OpenClaim := { program := "ytmfbhcooldngoaadoor", sum := "7a6d30d4cbc1338266430b7fecf78db1058b566954130daffc4c58df9a75707d", func := "loop.example/buildscheduler/laws.FnOutcomesNone", spec := "fnOutcomesNone", unfollowed := true, recurses := true, named := ["math/bits.deBruijn32tab"], apart := false, laid := [("math/bits.deBruijn32tab", laid_math_bits_deBruijn32tab)] }
def FnOutcomesNoneSaid : Prop := fnOutcomesNoneRow.holds Tryd.pinned (OpenSpec.ofChange fnOutcomesNoneSpec)

/-- ITS FALSE NEIGHBOUR: 'it returns false'. Refute it at one input. -/
def fnOutcomesNoneWrong : ChangeSpec := { name := "fnOutcomesNone", fn := fun _ => fun
  | [d] => { results := [.lit (.bool false)], args := [d] }
  | _ => none }
def FnOutcomesNoneWrongFalsely : Prop := fnOutcomesNoneRow.holds Tryd.pinned (OpenSpec.ofChange fnOutcomesNoneWrong)

/-- 'laws.FnOutcomes': WHATEVER THE INPUT: true; the input reads as it did. -/
def fnOutcomesSpec : ChangeSpec := { name := "fnOutcomes", fn := fun _ => fun
  | [d] => { results := [.lit (.bool true)], args := [d] }
  | _ => none }
def fnOutcomesRow : OpenClaim := { program := "ytmfbhcooldngoaadoor", sum := "7a6d30d4cbc1338266430b7fecf78db1058b566954130daffc4c58df9a75707d", func := "loop.example/buildscheduler/laws.FnOutcomes", spec := "fnOutcomes", unfollowed := true, recurses := true, named := ["math/bits.deBruijn32tab"], apart := false, laid := [("math/bits.deBruijn32tab", laid_math_bits_deBruijn32tab)] }
def FnOutcomesSaid : Prop := fnOutcomesRow.holds Tryd.pinned (OpenSpec.ofChange fnOutcomesSpec)

/-- ITS FALSE NEIGHBOUR: 'it returns false'. Refute it at one input. -/
def fnOutcomesWrong : ChangeSpec := { name := "fnOutcomes", fn := fun _ => fun
  | [d] => { results := [.lit (.bool false)], args := [d] }
  | _ => none }
def FnOutcomesWrongFalsely : Prop := fnOutcomesRow.holds Tryd.pinned (OpenSpec.ofChange fnOutcomesWrong)

/- THE SECOND FORM. 'bulk': how many values and letters a reading holds, each counted each time it is reached (what is shared counts as often as it is met; a slice's spare places count too). A statement '..UptoSaid' is the law's where the arguments, and the package variables that the reading takes, are together of bulk at most 1048576: NARROWER than '..Said'. Prove '..Said' where nothing that the law and all that it calls make is longer than what came in: it says more and counts as full. Else prove '..UptoSaid'. A law counts once. -/
mutual
def uptoBulk {H : Type} : DataW H → Nat
  | .lit (.string bytes) => bytes.length + 1
  | .lit _ => 1
  | .nil => 1
  | .ptr d => uptoBulk d + 1
  | .slice elems spare => uptoBulkAll elems + uptoBulkAll spare + 1
  | .agg parts => uptoBulkAll parts + 1
  | .iface _ d => uptoBulk d + 1
  | .map entries => uptoBulkEntries entries + 1
  | .held _ => 1
def uptoBulkAll {H : Type} : List (DataW H) → Nat
  | [] => 0
  | d :: r => uptoBulk d + uptoBulkAll r
def uptoBulkEntries {H : Type} : List (Lit × DataW H) → Nat
  | [] => 0
  | x :: r => uptoBulkEntry x + uptoBulkEntries r
def uptoBulkEntry {H : Type} : Lit × DataW H → Nat
  | (.string bytes, d) => bytes.length + uptoBulk d + 1
  | (_, d) => uptoBulk d + 1
 end
def uptoSmall : (H : Type) → List (DataW H) → Bool := fun _ ds => decide (uptoBulkAll ds ≤ 1048576)
def OpenSpec.upto (s : _root_.Go.ChangeSpec) : _root_.Go.OpenSpec := { _root_.Go.OpenSpec.ofChange s with cond := some uptoSmall }

/-- 'laws.FnBlamedFor', WHERE WHAT IT READS IS OF BULK AT MOST 1048576: true; the input reads as it did. -/
def fnBlamedForUptoRow : OpenClaim := { program := "ytmfbhcooldngoaadoor", sum := "7a6d30d4cbc1338266430b7fecf78db1058b566954130daffc4c58df9a75707d", func := "loop.example/buildscheduler/laws.FnBlamedFor", spec := "fnBlamedFor", unfollowed := true, recurses := true, named := ["math/bits.deBruijn32tab"], apart := false, laid := [("math/bits.deBruijn32tab", laid_math_bits_deBruijn32tab)], narrowed := true }
def FnBlamedForUptoSaid : Prop := fnBlamedForUptoRow.holds Tryd.pinned (OpenSpec.upto fnBlamedForSpec)

/-- 'laws.FnExactBlamedFor', WHERE WHAT IT READS IS OF BULK AT MOST 1048576: true; the input reads as it did. -/
def fnExactBlamedForUptoRow : OpenClaim := { program := "ytmfbhcooldngoaadoor", sum := "7a6d30d4cbc1338266430b7fecf78db1058b566954130daffc4c58df9a75707d", func := "loop.example/buildscheduler/laws.FnExactBlamedFor", spec := "fnExactBlamedFor", unfollowed := true, recurses := true, named := ["math/bits.deBruijn32tab"], apart := false, laid := [("math/bits.deBruijn32tab", laid_math_bits_deBruijn32tab)], narrowed := true }
def FnExactBlamedForUptoSaid : Prop := fnExactBlamedForUptoRow.holds Tryd.pinned (OpenSpec.upto fnExactBlamedForSpec)

/-- 'laws.FnBlamedForSelf', WHERE WHAT IT READS IS OF BULK AT MOST 1048576: true; the input reads as it did. -/
def fnBlamedForSelfUptoRow : OpenClaim := { program := "ytmfbhcooldngoaadoor", sum := "7a6d30d4cbc1338266430b7fecf78db1058b566954130daffc4c58df9a75707d", func := "loop.example/buildscheduler/laws.FnBlamedForSelf", spec := "fnBlamedForSelf", unfollowed := true, recurses := true, named := ["math/bits.deBruijn32tab"], apart := false, laid := [("math/bits.deBruijn32tab", laid_math_bits_deBruijn32tab)], narrowed := true }
def FnBlamedForSelfUptoSaid : Prop := fnBlamedForSelfUptoRow.holds Tryd.pinned (OpenSpec.upto fnBlamedForSelfSpec)

/-- 'laws.FnOutcomesKeep', WHERE WHAT IT READS IS OF BULK AT MOST 1048576: true; the input reads as it did. -/
def fnOutcomesKeepUptoRow : OpenClaim := { program := "ytmfbhcooldngoaadoor", sum := "7a6d30d4cbc1338266430b7fecf78db1058b566954130daffc4c58df9a75707d", func := "loop.example/buildscheduler/laws.FnOutcomesKeep", spec := "fnOutcomesKeep", unfollowed := true, recurses := true, named := ["math/bits.deBruijn32tab"], apart := false, laid := [("math/bits.deBruijn32tab", laid_math_bits_deBruijn32tab)], narrowed := true }
def FnOutcomesKeepUptoSaid : Prop := fnOutcomesKeepUptoRow.holds Tryd.pinned (OpenSpec.upto fnOutcomesKeepSpec)

/-- 'laws.FnOutcomesFirst', WHERE WHAT IT READS IS OF BULK AT MOST 1048576: true; the input reads as it did. -/
def fnOutcomesFirstUptoRow : OpenClaim := { program := "ytmfbhcooldngoaadoor", sum := "7a6d30d4cbc1338266430b7fecf78db1058b566954130daffc4c58df9a75707d", func := "loop.example/buildscheduler/laws.FnOutcomesFirst", spec := "fnOutcomesFirst", unfollowed := true, recurses := true, named := ["math/bits.deBruijn32tab"], apart := false, laid := [("math/bits.deBruijn32tab", laid_math_bits_deBruijn32tab)], narrowed := true }
def FnOutcomesFirstUptoSaid : Prop := fnOutcomesFirstUptoRow.holds Tryd.pinned (OpenSpec.upto fnOutcomesFirstSpec)

/-- 'laws.FnOutcomesNone', WHERE WHAT IT READS IS OF BULK AT MOST 1048576: true; the input reads as it did. -/
def fnOutcomesNoneUptoRow : OpenClaim := { program := "ytmfbhcooldngoaadoor", sum := "7a6d30d4cbc1338266430b7fecf78db1058b566954130daffc4c58df9a75707d", func := "loop.example/buildscheduler/laws.FnOutcomesNone", spec := "fnOutcomesNone", unfollowed := true, recurses := true, named := ["math/bits.deBruijn32tab"], apart := false, laid := [("math/bits.deBruijn32tab", laid_math_bits_deBruijn32tab)], narrowed := true }
def FnOutcomesNoneUptoSaid : Prop := fnOutcomesNoneUptoRow.holds Tryd.pinned (OpenSpec.upto fnOutcomesNoneSpec)

/-- 'laws.FnOutcomes', WHERE WHAT IT READS IS OF BULK AT MOST 1048576: true; the input reads as it did. -/
def fnOutcomesUptoRow : OpenClaim := { program := "ytmfbhcooldngoaadoor", sum := "7a6d30d4cbc1338266430b7fecf78db1058b566954130daffc4c58df9a75707d", func := "loop.example/buildscheduler/laws.FnOutcomes", spec := "fnOutcomes", unfollowed := true, recurses := true, named := ["math/bits.deBruijn32tab"], apart := false, laid := [("math/bits.deBruijn32tab", laid_math_bits_deBruijn32tab)], narrowed := true }
def FnOutcomesUptoSaid : Prop := fnOutcomesUptoRow.holds Tryd.pinned (OpenSpec.upto fnOutcomesSpec)

end Rows
end Go.Proofs.YtmfbhcooldngoaaDoor
