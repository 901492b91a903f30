/-
  NARROWER THAN 'FOR EVERY INPUT', by the rows' own cells (each row's printed sentence says how): FnStageOf: laid · FnStageOfCount: laid · FnStagesOf: laid · FnUselessNeedsNone: laid · FnExactStageOf: laid · FnExactStagesOf: laid.
  DERIVED. THE GIVEN ROWS OF THIS SEAT. 6 by the template 'for every input the law returns true; each argument reads behind the call as it read before'; 0 by the template 'total and deterministic' (their statements: YtbodhggmhbiebaaDoorTotals.lean).
  GIVEN WITH THE SEED: the statements are not yours to turn. If you find one false, say at which input.
  Laid BY PROGRAM, IN A SANDBOX (cutbox-rows.mjs): the forced cells as the released guide's own fill.sh prints them over the translation 0eaf4ea41ae07413… (all of the seat's roots in one cut). By AI agents, Wed Nov 11 2026. No macro, syntax, notation, axiom, sorry.
-/
import Derived.Test.YtbodhggmhbiebaaDoorChecked
import GoSem.Claim
import GoSem.ClaimJoined
import GoSem.ClaimMapViews
import Derived.JoinedTies
import Derived.KernelRfl
namespace Go.Proofs.YtbodhggmhbiebaaDoor
/- THE CELL 'sum', in the pinned program and in every row, IS THE sha256 OF THE DUMP (.gsa) THAT YtbodhggmhbiebaaDoorProg.lean LOADS. Nothing in Lean hashes anything: it is a label: what it is worth is what the hold of that sum in a sandbox is worth. -/
noncomputable def Tryd.pinned : Pinned := { name := "ytbodhggmhbiebaadoor", sum := "0eaf4ea41ae0741340f4a434e1b77e3c088e34957b7a53a6671f9aa2c39e75f0", checked := Tryd.checked }
namespace Rows
def none {H : Type} : Left H := { results := [], args := [] }

/- WHAT THE LISTED PACKAGE-LEVEL VARIABLES READ AS WHEN THE CALL BEGINS. Each datum BY PROGRAM (the guide's laid-datum.mjs) off the statement by which the dump's own 'gosem.cut.vars' lays the variable. In a bare row this is a premise. The card (YtbodhggmhbiebaaDoorCards.lean) ties it to the program's text. -/
def laid_math_bits_deBruijn32tab {H : Type} : DataW H := .agg [.lit (.int .u8 0), .lit (.int .u8 1), .lit (.int .u8 28), .lit (.int .u8 2), .lit (.int .u8 29), .lit (.int .u8 14), .lit (.int .u8 24), .lit (.int .u8 3), .lit (.int .u8 30), .lit (.int .u8 22), .lit (.int .u8 20), .lit (.int .u8 15), .lit (.int .u8 25), .lit (.int .u8 17), .lit (.int .u8 4), .lit (.int .u8 8), .lit (.int .u8 31), .lit (.int .u8 27), .lit (.int .u8 13), .lit (.int .u8 23), .lit (.int .u8 21), .lit (.int .u8 19), .lit (.int .u8 16), .lit (.int .u8 7), .lit (.int .u8 26), .lit (.int .u8 12), .lit (.int .u8 18), .lit (.int .u8 6), .lit (.int .u8 11), .lit (.int .u8 5), .lit (.int .u8 10), .lit (.int .u8 9)]

/-- 'laws.FnStageOf': WHATEVER THE INPUT: true; the input reads as it did. -/
def fnStageOfSpec : ChangeSpec := { name := "fnStageOf", fn := fun _ => fun
  | [d] => { results := [.lit (.bool true)], args := [d] }
  | _ => none }
def fnStageOfRow : OpenClaim := { program := "ytbodhggmhbiebaadoor", sum := "0eaf4ea41ae0741340f4a434e1b77e3c088e34957b7a53a6671f9aa2c39e75f0", func := "loop.example/buildscheduler/laws.FnStageOf", spec := "fnStageOf", unfollowed := true, recurses := true, named := ["math/bits.deBruijn32tab"], apart := false, laid := [("math/bits.deBruijn32tab", laid_math_bits_deBruijn32tab)] }
def FnStageOfSaid : Prop := fnStageOfRow.holds Tryd.pinned (OpenSpec.ofChange fnStageOfSpec)

/-- ITS FALSE NEIGHBOUR: 'it returns false'. Refute it at one input. -/
def fnStageOfWrong : ChangeSpec := { name := "fnStageOf", fn := fun _ => fun
  | [d] => { results := [.lit (.bool false)], args := [d] }
  | _ => none }
def FnStageOfWrongFalsely : Prop := fnStageOfRow.holds Tryd.pinned (OpenSpec.ofChange fnStageOfWrong)

/-- 'laws.FnStageOfCount': WHATEVER THE INPUT: true; the input reads as it did. -/
def fnStageOfCountSpec : ChangeSpec := { name := "fnStageOfCount", fn := fun _ => fun
  | [d] => { results := [.lit (.bool true)], args := [d] }
  | _ => none }
def fnStageOfCountRow : OpenClaim := { program := "ytbodhggmhbiebaadoor", sum := "0eaf4ea41ae0741340f4a434e1b77e3c088e34957b7a53a6671f9aa2c39e75f0", func := "loop.example/buildscheduler/laws.FnStageOfCount", spec := "fnStageOfCount", unfollowed := true, recurses := true, named := ["math/bits.deBruijn32tab"], apart := false, laid := [("math/bits.deBruijn32tab", laid_math_bits_deBruijn32tab)] }
def FnStageOfCountSaid : Prop := fnStageOfCountRow.holds Tryd.pinned (OpenSpec.ofChange fnStageOfCountSpec)

/-- ITS FALSE NEIGHBOUR: 'it returns false'. Refute it at one input. -/
def fnStageOfCountWrong : ChangeSpec := { name := "fnStageOfCount", fn := fun _ => fun
  | [d] => { results := [.lit (.bool false)], args := [d] }
  | _ => none }
def FnStageOfCountWrongFalsely : Prop := fnStageOfCountRow.holds Tryd.pinned (OpenSpec.ofChange fnStageOfCountWrong)

/-- 'laws.FnStagesOf': WHATEVER THE INPUT: true; the input reads as it did. -/
def fnStagesOfSpec : ChangeSpec := { name := "fnStagesOf", fn := fun _ => fun
  | [d] => { results := [.lit (.bool true)], args := [d] }
  | _ => none }
def fnStagesOfRow : OpenClaim := { program := "ytbodhggmhbiebaadoor", sum := "0eaf4ea41ae0741340f4a434e1b77e3c088e34957b7a53a6671f9aa2c39e75f0", func := "loop.example/buildscheduler/laws.FnStagesOf", spec := "fnStagesOf", unfollowed := true, recurses := true, named := ["math/bits.deBruijn32tab"], apart := false, laid := [("math/bits.deBruijn32tab", laid_math_bits_deBruijn32tab)] }
def FnStagesOfSaid : Prop := fnStagesOfRow.holds Tryd.pinned (OpenSpec.ofChange fnStagesOfSpec)

/-- ITS FALSE NEIGHBOUR: 'it returns false'. Refute it at one input. -/
def fnStagesOfWrong : ChangeSpec := { name := "fnStagesOf", fn := fun _ => fun
  | [d] => { results := [.lit (.bool false)], args := [d] }
  | _ => none }
def FnStagesOfWrongFalsely : Prop := fnStagesOfRow.holds Tryd.pinned (OpenSpec.ofChange fnStagesOfWrong)

/-- 'laws.FnUselessNeedsNone': WHATEVER THE INPUT: true; the input reads as it did. -/
def fnUselessNeedsNoneSpec : ChangeSpec := { name := "fnUselessNeedsNone", fn := fun _ => fun
  | [d] => { results := [.lit (.bool true)], args := [d] }
  | _ => none }
def fnUselessNeedsNoneRow : OpenClaim := { program := "ytbodhggmhbiebaadoor", sum := "0eaf4ea41ae0741340f4a434e1b77e3c088e34957b7a53a6671f9aa2c39e75f0", func := "loop.example/buildscheduler/laws.FnUselessNeedsNone", spec := "fnUselessNeedsNone", unfollowed := true, recurses := true, named := ["math/bits.deBruijn32tab"], apart := false, laid := [("math/bits.deBruijn32tab", laid_math_bits_deBruijn32tab)] }
def FnUselessNeedsNoneSaid : Prop := fnUselessNeedsNoneRow.holds Tryd.pinned (OpenSpec.ofChange fnUselessNeedsNoneSpec)

/-- ITS FALSE NEIGHBOUR: 'it returns false'. Refute it at one input. -/
def fnUselessNeedsNoneWrong : ChangeSpec := { name := "fnUselessNeedsNone", fn := fun _ => fun
  | [d] => { results := [.lit (.bool false)], args := [d] }
  | _ => none }
def FnUselessNeedsNoneWrongFalsely : Prop := fnUselessNeedsNoneRow.holds Tryd.pinned (OpenSpec.ofChange fnUselessNeedsNoneWrong)

/-- 'laws.FnExactStageOf': WHATEVER THE INPUT: true; the input reads as it did. -/
def fnExactStageOfSpec : ChangeSpec := { name := "fnExactStageOf", fn := fun _ => fun
  | [d] => { results := [.lit (.bool true)], args := [d] }
  | _ => none }
def fnExactStageOfRow : OpenClaim := { program := "ytbodhggmhbiebaadoor", sum := "0eaf4ea41ae0741340f4a434e1b77e3c088e34957b7a53a6671f9aa2c39e75f0", func := "loop.example/buildscheduler/laws.FnExactStageOf", spec := "fnExactStageOf", unfollowed := true, recurses := true, named := ["math/bits.deBruijn32tab"], apart := false, laid := [("math/bits.deBruijn32tab", laid_math_bits_deBruijn32tab)] }
def FnExactStageOfSaid : Prop := fnExactStageOfRow.holds Tryd.pinned (OpenSpec.ofChange fnExactStageOfSpec)

/-- ITS FALSE NEIGHBOUR: 'it returns false'. Refute it at one input. -/
def fnExactStageOfWrong : ChangeSpec := { name := "fnExactStageOf", fn := fun _ => fun
  | [d] => { results := [.lit (.bool false)], args := [d] }
  | _ => none }
def FnExactStageOfWrongFalsely : Prop := fnExactStageOfRow.holds Tryd.pinned (OpenSpec.ofChange fnExactStageOfWrong)

/-- 'laws.FnExactStagesOf': WHATEVER THE INPUT: true; the input reads as it did. -/
def fnExactStagesOfSpec : ChangeSpec := { name := "fnExactStagesOf", fn := fun _ => fun
  | [d] => { results := [.lit (.bool true)], args := [d] }
  | _ => none }
def fnExactStagesOfRow : OpenClaim := { program := "ytbodhggmhbiebaadoor", sum := "0eaf4ea41ae0741340f4a434e1b77e3c088e34957b7a53a6671f9aa2c39e75f0", func := "loop.example/buildscheduler/laws.FnExactStagesOf", spec := "fnExactStagesOf", unfollowed := true, recurses := true, named := ["math/bits.deBruijn32tab"], apart := false, laid := [("math/bits.deBruijn32tab", laid_math_bits_deBruijn32tab)] }
def FnExactStagesOfSaid : Prop := fnExactStagesOfRow.holds Tryd.pinned (OpenSpec.ofChange fnExactStagesOfSpec)

/-- ITS FALSE NEIGHBOUR: 'it returns false'. Refute it at one input. -/
def fnExactStagesOfWrong : ChangeSpec := { name := "fnExactStagesOf", fn := fun _ => fun
  | [d] => { results := [.lit (.bool false)], args := [d] }
  | _ => none }
def FnExactStagesOfWrongFalsely : Prop := fnExactStagesOfRow.holds Tryd.pinned (OpenSpec.ofChange fnExactStagesOfWrong)

/- THE SECOND FORM. 'bulk': how many values and letters a reading holds, each counted each time it is reached (what is shared counts as often as it is met; a slice's spare places count too). A statement '..UptoSaid' is the law's where the arguments, and the package variables that the reading takes, are together of bulk at most 1048576: NARROWER than '..Said'. Prove '..Said' where nothing that the law and all that it calls make is longer than what came in: it says more and counts as full. Else prove '..UptoSaid'. A law counts once. -/
mutual
def uptoBulk {H : Type} : DataW H → Nat
  | .lit (.string bytes) => bytes.length + 1
  | .lit _ => 1
  | .nil => 1
  | .ptr d => uptoBulk d + 1
  | .slice elems spare => uptoBulkAll elems + uptoBulkAll spare + 1
  | .agg parts => uptoBulkAll parts + 1
  | .iface _ d => uptoBulk d + 1
  | .map entries => uptoBulkEntries entries + 1
  | .held _ => 1
def uptoBulkAll {H : Type} : List (DataW H) → Nat
  | [] => 0
  | d :: r => uptoBulk d + uptoBulkAll r
def uptoBulkEntries {H : Type} : List (Lit × DataW H) → Nat
  | [] => 0
  | x :: r => uptoBulkEntry x + uptoBulkEntries r
def uptoBulkEntry {H : Type} : Lit × DataW H → Nat
  | (.string bytes, d) => bytes.length + uptoBulk d + 1
  | (_, d) => uptoBulk d + 1
 end
def uptoSmall : (H : Type) → List (DataW H) → Bool := fun _ ds => decide (uptoBulkAll ds ≤ 1048576)
def OpenSpec.upto (s : _root_.Go.ChangeSpec) : _root_.Go.OpenSpec := { _root_.Go.OpenSpec.ofChange s with cond := some uptoSmall }

/-- 'laws.FnStageOf', WHERE WHAT IT READS IS OF BULK AT MOST 1048576: true; the input reads as it did. -/
def fnStageOfUptoRow : OpenClaim := { program := "ytbodhggmhbiebaadoor", sum := "0eaf4ea41ae0741340f4a434e1b77e3c088e34957b7a53a6671f9aa2c39e75f0", func := "loop.example/buildscheduler/laws.FnStageOf", spec := "fnStageOf", unfollowed := true, recurses := true, named := ["math/bits.deBruijn32tab"], apart := false, laid := [("math/bits.deBruijn32tab", laid_math_bits_deBruijn32tab)], narrowed := true }
def FnStageOfUptoSaid : Prop := fnStageOfUptoRow.holds Tryd.pinned (OpenSpec.upto fnStageOfSpec)

/-- 'laws.FnStageOfCount', WHERE WHAT IT READS IS OF BULK AT MOST 1048576: true; the input reads as it did. -/
def fnStageOfCountUptoRow : OpenClaim := { program := "ytbodhggmhbiebaadoor", sum := "0eaf4ea41ae0741340f4a434e1b77e3c088e34957b7a53a6671f9aa2c39e75f0", func := "loop.example/buildscheduler/laws.FnStageOfCount", spec := "fnStageOfCount", unfollowed := true, recurses := true, named := ["math/bits.deBruijn32tab"], apart := false, laid := [("math/bits.deBruijn32tab", laid_math_bits_deBruijn32tab)], narrowed := true }
def FnStageOfCountUptoSaid : Prop := fnStageOfCountUptoRow.holds Tryd.pinned (OpenSpec.upto fnStageOfCountSpec)

/-- 'laws.FnStagesOf', WHERE WHAT IT READS IS OF BULK AT MOST 1048576: true; the input reads as it did. -/
def fnStagesOfUptoRow : OpenClaim := { program := "ytbodhggmhbiebaadoor", sum := "0eaf4ea41ae0741340f4a434e1b77e3c088e34957b7a53a6671f9aa2c39e75f0", func := "loop.example/buildscheduler/laws.FnStagesOf", spec := "fnStagesOf", unfollowed := true, recurses := true, named := ["math/bits.deBruijn32tab"], apart := false, laid := [("math/bits.deBruijn32tab", laid_math_bits_deBruijn32tab)], narrowed := true }
def FnStagesOfUptoSaid : Prop := fnStagesOfUptoRow.holds Tryd.pinned (OpenSpec.upto fnStagesOfSpec)

/-- 'laws.FnUselessNeedsNone', WHERE WHAT IT READS IS OF BULK AT MOST 1048576: true; the input reads as it did. -/
def fnUselessNeedsNoneUptoRow : OpenClaim := { program := "ytbodhggmhbiebaadoor", sum := "0eaf4ea41ae0741340f4a434e1b77e3c088e34957b7a53a6671f9aa2c39e75f0", func := "loop.example/buildscheduler/laws.FnUselessNeedsNone", spec := "fnUselessNeedsNone", unfollowed := true, recurses := true, named := ["math/bits.deBruijn32tab"], apart := false, laid := [("math/bits.deBruijn32tab", laid_math_bits_deBruijn32tab)], narrowed := true }
def FnUselessNeedsNoneUptoSaid : Prop := fnUselessNeedsNoneUptoRow.holds Tryd.pinned (OpenSpec.upto fnUselessNeedsNoneSpec)

/-- 'laws.FnExactStageOf', WHERE WHAT IT READS IS OF BULK AT MOST 1048576: true; the input reads as it did. -/
def fnExactStageOfUptoRow : OpenClaim := { program := "ytbodhggmhbiebaadoor", sum := "0eaf4ea41ae0741340f4a434e1b77e3c088e34957b7a53a6671f9aa2c39e75f0", func := "loop.example/buildscheduler/laws.FnExactStageOf", spec := "fnExactStageOf", unfollowed := true, recurses := true, named := ["math/bits.deBruijn32tab"], apart := false, laid := [("math/bits.deBruijn32tab", laid_math_bits_deBruijn32tab)], narrowed := true }
def FnExactStageOfUptoSaid : Prop := fnExactStageOfUptoRow.holds Tryd.pinned (OpenSpec.upto fnExactStageOfSpec)

/-- 'laws.FnExactStagesOf', WHERE WHAT IT READS IS OF BULK AT MOST 1048576: true; the input reads as it did. -/
def fnExactStagesOfUptoRow : OpenClaim := { program := "ytbodhggmhbiebaadoor", sum := "0eaf4ea41ae0741340f4a434e1b77e3c088e34957b7a53a6671f9aa2c39e75f0", func := "loop.example/buildscheduler/laws.FnExactStagesOf", spec := "fnExactStagesOf", unfollowed := true, recurses := true, named := ["math/bits.deBruijn32tab"], apart := false, laid := [("math/bits.deBruijn32tab", laid_math_bits_deBruijn32tab)], narrowed := true }
def FnExactStagesOfUptoSaid : Prop := fnExactStagesOfUptoRow.holds Tryd.pinned (OpenSpec.upto fnExactStagesOfSpec)

end Rows
end Go.Proofs.YtbodhggmhbiebaaDoor
