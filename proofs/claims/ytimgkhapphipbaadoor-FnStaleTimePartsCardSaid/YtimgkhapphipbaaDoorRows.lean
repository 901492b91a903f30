/-
  NARROWER THAN 'FOR EVERY INPUT', by the rows' own cells (each row's printed sentence says how): FnExactStaleTime: laid · FnStaleTimeParts: laid · FnExactStaleTasks: laid · FnStaleTasksAgain: laid · FnStaleTasksMore: laid · FnStaleTime: laid · FnStaleTasks: laid.
  DERIVED. THE GIVEN ROWS OF THIS SEAT. 7 by the template 'for every input the law returns true; each argument reads behind the call as it read before'; 0 by the template 'total and deterministic' (their statements: YtimgkhapphipbaaDoorTotals.lean).
  GIVEN WITH THE SEED: the statements are not yours to turn. If you find one false, say at which input.
  Laid BY PROGRAM, IN A SANDBOX (cutbox-rows.mjs): the forced cells as the released guide's own fill.sh prints them over the translation d3576e07fe37c86a… (all of the seat's roots in one cut). By AI agents, Wed Nov 11 2026. No macro, syntax, notation, axiom, sorry.
-/
import Derived.Test.YtimgkhapphipbaaDoorChecked
import GoSem.Claim
import GoSem.ClaimJoined
import GoSem.ClaimMapViews
import Derived.JoinedTies
import Derived.KernelRfl
namespace Go.Proofs.YtimgkhapphipbaaDoor
/- THE CELL 'sum', in the pinned program and in every row, IS THE sha256 OF THE DUMP (.gsa) THAT YtimgkhapphipbaaDoorProg.lean LOADS. Nothing in Lean hashes anything: it is a label: what it is worth is what the hold of that sum in a sandbox is worth. -/
noncomputable def Tryd.pinned : Pinned := { name := "ytimgkhapphipbaadoor", sum := "d3576e07fe37c86a260155c09cedc832c195823c25c1a5d88edd90163b52afcd", checked := Tryd.checked }
namespace Rows
def none {H : Type} : Left H := { results := [], args := [] }

/- WHAT THE LISTED PACKAGE-LEVEL VARIABLES READ AS WHEN THE CALL BEGINS. Each datum BY PROGRAM (the guide's laid-datum.mjs) off the statement by which the dump's own 'gosem.cut.vars' lays the variable. In a bare row this is a premise. The card (YtimgkhapphipbaaDoorCards.lean) ties it to the program's text. -/
def laid_math_bits_deBruijn32tab {H : Type} : DataW H := .agg [.lit (.int .u8 0), .lit (.int .u8 1), .lit (.int .u8 28), .lit (.int .u8 2), .lit (.int .u8 29), .lit (.int .u8 14), .lit (.int .u8 24), .lit (.int .u8 3), .lit (.int .u8 30), .lit (.int .u8 22), .lit (.int .u8 20), .lit (.int .u8 15), .lit (.int .u8 25), .lit (.int .u8 17), .lit (.int .u8 4), .lit (.int .u8 8), .lit (.int .u8 31), .lit (.int .u8 27), .lit (.int .u8 13), .lit (.int .u8 23), .lit (.int .u8 21), .lit (.int .u8 19), .lit (.int .u8 16), .lit (.int .u8 7), .lit (.int .u8 26), .lit (.int .u8 12), .lit (.int .u8 18), .lit (.int .u8 6), .lit (.int .u8 11), .lit (.int .u8 5), .lit (.int .u8 10), .lit (.int .u8 9)]

/-- 'laws.FnExactStaleTime': WHATEVER THE INPUT: true; the input reads as it did. -/
def fnExactStaleTimeSpec : ChangeSpec := { name := "fnExactStaleTime", fn := fun _ => fun
  | [d1, d2] => { results := [.lit (.bool true)], args := [d1, d2] }
  | _ => none }
def fnExactStaleTimeRow : OpenClaim := { program := "ytimgkhapphipbaadoor", sum := "d3576e07fe37c86a260155c09cedc832c195823c25c1a5d88edd90163b52afcd", func := "loop.example/buildscheduler/laws.FnExactStaleTime", spec := "fnExactStaleTime", unfollowed := true, recurses := true, named := ["math/bits.deBruijn32tab"], apart := false, laid := [("math/bits.deBruijn32tab", laid_math_bits_deBruijn32tab)] }
def FnExactStaleTimeSaid : Prop := fnExactStaleTimeRow.holds Tryd.pinned (OpenSpec.ofChange fnExactStaleTimeSpec)

/-- ITS FALSE NEIGHBOUR: 'it returns false'. Refute it at one input. -/
def fnExactStaleTimeWrong : ChangeSpec := { name := "fnExactStaleTime", fn := fun _ => fun
  | [d1, d2] => { results := [.lit (.bool false)], args := [d1, d2] }
  | _ => none }
def FnExactStaleTimeWrongFalsely : Prop := fnExactStaleTimeRow.holds Tryd.pinned (OpenSpec.ofChange fnExactStaleTimeWrong)

/-- 'laws.FnStaleTimeParts': WHATEVER THE INPUT: true; the input reads as it did. -/
def fnStaleTimePartsSpec : ChangeSpec := { name := "fnStaleTimeParts", fn := fun _ => fun
  | [d] => { results := [.lit (.bool true)], args := [d] }
  | _ => none }
def fnStaleTimePartsRow : OpenClaim := { program := "ytimgkhapphipbaadoor", sum := "d3576e07fe37c86a260155c09cedc832c195823c25c1a5d88edd90163b52afcd", func := "loop.example/buildscheduler/laws.FnStaleTimeParts", spec := "fnStaleTimeParts", unfollowed := true, recurses := true, named := ["math/bits.deBruijn32tab"], apart := false, laid := [("math/bits.deBruijn32tab", laid_math_bits_deBruijn32tab)] }
def FnStaleTimePartsSaid : Prop := fnStaleTimePartsRow.holds Tryd.pinned (OpenSpec.ofChange fnStaleTimePartsSpec)

/-- ITS FALSE NEIGHBOUR: 'it returns false'. Refute it at one input. -/
def fnStaleTimePartsWrong : ChangeSpec := { name := "fnStaleTimeParts", fn := fun _ => fun
  | [d] => { results := [.lit (.bool false)], args := [d] }
  | _ => none }
def FnStaleTimePartsWrongFalsely : Prop := fnStaleTimePartsRow.holds Tryd.pinned (OpenSpec.ofChange fnStaleTimePartsWrong)

/-- 'laws.FnExactStaleTasks': WHATEVER THE INPUT: true; the input reads as it did. -/
def fnExactStaleTasksSpec : ChangeSpec := { name := "fnExactStaleTasks", fn := fun _ => fun
  | [d1, d2] => { results := [.lit (.bool true)], args := [d1, d2] }
  | _ => none }
def fnExactStaleTasksRow : OpenClaim := { program := "ytimgkhapphipbaadoor", sum := "d3576e07fe37c86a260155c09cedc832c195823c25c1a5d88edd90163b52afcd", func := "loop.example/buildscheduler/laws.FnExactStaleTasks", spec := "fnExactStaleTasks", unfollowed := true, recurses := true, named := ["math/bits.deBruijn32tab"], apart := false, laid := [("math/bits.deBruijn32tab", laid_math_bits_deBruijn32tab)] }
def FnExactStaleTasksSaid : Prop := fnExactStaleTasksRow.holds Tryd.pinned (OpenSpec.ofChange fnExactStaleTasksSpec)

/-- ITS FALSE NEIGHBOUR: 'it returns false'. Refute it at one input. -/
def fnExactStaleTasksWrong : ChangeSpec := { name := "fnExactStaleTasks", fn := fun _ => fun
  | [d1, d2] => { results := [.lit (.bool false)], args := [d1, d2] }
  | _ => none }
def FnExactStaleTasksWrongFalsely : Prop := fnExactStaleTasksRow.holds Tryd.pinned (OpenSpec.ofChange fnExactStaleTasksWrong)

/-- 'laws.FnStaleTasksAgain': WHATEVER THE INPUT: true; the input reads as it did. -/
def fnStaleTasksAgainSpec : ChangeSpec := { name := "fnStaleTasksAgain", fn := fun _ => fun
  | [d] => { results := [.lit (.bool true)], args := [d] }
  | _ => none }
def fnStaleTasksAgainRow : OpenClaim := { program := "ytimgkhapphipbaadoor", sum := "d3576e07fe37c86a260155c09cedc832c195823c25c1a5d88edd90163b52afcd", func := "loop.example/buildscheduler/laws.FnStaleTasksAgain", spec := "fnStaleTasksAgain", unfollowed := true, recurses := true, named := ["math/bits.deBruijn32tab"], apart := false, laid := [("math/bits.deBruijn32tab", laid_math_bits_deBruijn32tab)] }
def FnStaleTasksAgainSaid : Prop := fnStaleTasksAgainRow.holds Tryd.pinned (OpenSpec.ofChange fnStaleTasksAgainSpec)

/-- ITS FALSE NEIGHBOUR: 'it returns false'. Refute it at one input. -/
def fnStaleTasksAgainWrong : ChangeSpec := { name := "fnStaleTasksAgain", fn := fun _ => fun
  | [d] => { results := [.lit (.bool false)], args := [d] }
  | _ => none }
def FnStaleTasksAgainWrongFalsely : Prop := fnStaleTasksAgainRow.holds Tryd.pinned (OpenSpec.ofChange fnStaleTasksAgainWrong)

/-- 'laws.FnStaleTasksMore': WHATEVER THE INPUT: true; the input reads as it did. -/
def fnStaleTasksMoreSpec : ChangeSpec := { name := "fnStaleTasksMore", fn := fun _ => fun
  | [d] => { results := [.lit (.bool true)], args := [d] }
  | _ => none }
def fnStaleTasksMoreRow : OpenClaim := { program := "ytimgkhapphipbaadoor", sum := "d3576e07fe37c86a260155c09cedc832c195823c25c1a5d88edd90163b52afcd", func := "loop.example/buildscheduler/laws.FnStaleTasksMore", spec := "fnStaleTasksMore", unfollowed := true, recurses := true, named := ["math/bits.deBruijn32tab"], apart := false, laid := [("math/bits.deBruijn32tab", laid_math_bits_deBruijn32tab)] }
def FnStaleTasksMoreSaid : Prop := fnStaleTasksMoreRow.holds Tryd.pinned (OpenSpec.ofChange fnStaleTasksMoreSpec)

/-- ITS FALSE NEIGHBOUR: 'it returns false'. Refute it at one input. -/
def fnStaleTasksMoreWrong : ChangeSpec := { name := "fnStaleTasksMore", fn := fun _ => fun
  | [d] => { results := [.lit (.bool false)], args := [d] }
  | _ => none }
def FnStaleTasksMoreWrongFalsely : Prop := fnStaleTasksMoreRow.holds Tryd.pinned (OpenSpec.ofChange fnStaleTasksMoreWrong)

/-- 'laws.FnStaleTime': WHATEVER THE INPUT: true; the input reads as it did. -/
def fnStaleTimeSpec : ChangeSpec := { name := "fnStaleTime", fn := fun _ => fun
  | [d] => { results := [.lit (.bool true)], args := [d] }
  | _ => none }
def fnStaleTimeRow : OpenClaim := { program := "ytimgkhapphipbaadoor", sum := "d3576e07fe37c86a260155c09cedc832c195823c25c1a5d88edd90163b52afcd", func := "loop.example/buildscheduler/laws.FnStaleTime", spec := "fnStaleTime", unfollowed := true, recurses := true, named := ["math/bits.deBruijn32tab"], apart := false, laid := [("math/bits.deBruijn32tab", laid_math_bits_deBruijn32tab)] }
def FnStaleTimeSaid : Prop := fnStaleTimeRow.holds Tryd.pinned (OpenSpec.ofChange fnStaleTimeSpec)

/-- ITS FALSE NEIGHBOUR: 'it returns false'. Refute it at one input. -/
def fnStaleTimeWrong : ChangeSpec := { name := "fnStaleTime", fn := fun _ => fun
  | [d] => { results := [.lit (.bool false)], args := [d] }
  | _ => none }
def FnStaleTimeWrongFalsely : Prop := fnStaleTimeRow.holds Tryd.pinned (OpenSpec.ofChange fnStaleTimeWrong)

/-- 'laws.FnStaleTasks': WHATEVER THE INPUT: true; the input reads as it did. -/
def fnStaleTasksSpec : ChangeSpec := { name := "fnStaleTasks", fn := fun _ => fun
  | [d] => { results := [.lit (.bool true)], args := [d] }
  | _ => none }
def fnStaleTasksRow : OpenClaim := { program := "ytimgkhapphipbaadoor", sum := "d3576e07fe37c86a260155c09cedc832c195823c25c1a5d88edd90163b52afcd", func := "loop.example/buildscheduler/laws.FnStaleTasks", spec := "fnStaleTasks", unfollowed := true, recurses := true, named := ["math/bits.deBruijn32tab"], apart := false, laid := [("math/bits.deBruijn32tab", laid_math_bits_deBruijn32tab)] }
def FnStaleTasksSaid : Prop := fnStaleTasksRow.holds Tryd.pinned (OpenSpec.ofChange fnStaleTasksSpec)

/-- ITS FALSE NEIGHBOUR: 'it returns false'. Refute it at one input. -/
def fnStaleTasksWrong : ChangeSpec := { name := "fnStaleTasks", fn := fun _ => fun
  | [d] => { results := [.lit (.bool false)], args := [d] }
  | _ => none }
def FnStaleTasksWrongFalsely : Prop := fnStaleTasksRow.holds Tryd.pinned (OpenSpec.ofChange fnStaleTasksWrong)

/- THE SECOND FORM. 'bulk': how many values and letters a reading holds, each counted each time it is reached (what is shared counts as often as it is met; a slice's spare places count too). A statement '..UptoSaid' is the law's where the arguments, and the package variables that the reading takes, are together of bulk at most 1048576: NARROWER than '..Said'. Prove '..Said' where nothing that the law and all that it calls make is longer than what came in: it says more and counts as full. Else prove '..UptoSaid'. A law counts once. -/
mutual
def uptoBulk {H : Type} : DataW H → Nat
  | .lit (.string bytes) => bytes.length + 1
  | .lit _ => 1
  | .nil => 1
  | .ptr d => uptoBulk d + 1
  | .slice elems spare => uptoBulkAll elems + uptoBulkAll spare + 1
  | .agg parts => uptoBulkAll parts + 1
  | .iface _ d => uptoBulk d + 1
  | .map entries => uptoBulkEntries entries + 1
  | .held _ => 1
def uptoBulkAll {H : Type} : List (DataW H) → Nat
  | [] => 0
  | d :: r => uptoBulk d + uptoBulkAll r
def uptoBulkEntries {H : Type} : List (Lit × DataW H) → Nat
  | [] => 0
  | x :: r => uptoBulkEntry x + uptoBulkEntries r
def uptoBulkEntry {H : Type} : Lit × DataW H → Nat
  | (.string bytes, d) => bytes.length + uptoBulk d + 1
  | (_, d) => uptoBulk d + 1
 end
def uptoSmall : (H : Type) → List (DataW H) → Bool := fun _ ds => decide (uptoBulkAll ds ≤ 1048576)
def OpenSpec.upto (s : _root_.Go.ChangeSpec) : _root_.Go.OpenSpec := { _root_.Go.OpenSpec.ofChange s with cond := some uptoSmall }

/-- 'laws.FnExactStaleTime', WHERE WHAT IT READS IS OF BULK AT MOST 1048576: true; the input reads as it did. -/
def fnExactStaleTimeUptoRow : OpenClaim := { program := "ytimgkhapphipbaadoor", sum := "d3576e07fe37c86a260155c09cedc832c195823c25c1a5d88edd90163b52afcd", func := "loop.example/buildscheduler/laws.FnExactStaleTime", spec := "fnExactStaleTime", unfollowed := true, recurses := true, named := ["math/bits.deBruijn32tab"], apart := false, laid := [("math/bits.deBruijn32tab", laid_math_bits_deBruijn32tab)], narrowed := true }
def FnExactStaleTimeUptoSaid : Prop := fnExactStaleTimeUptoRow.holds Tryd.pinned (OpenSpec.upto fnExactStaleTimeSpec)

/-- 'laws.FnStaleTimeParts', WHERE WHAT IT READS IS OF BULK AT MOST 1048576: true; the input reads as it did. -/
def fnStaleTimePartsUptoRow : OpenClaim := { program := "ytimgkhapphipbaadoor", sum := "d3576e07fe37c86a260155c09cedc832c195823c25c1a5d88edd90163b52afcd", func := "loop.example/buildscheduler/laws.FnStaleTimeParts", spec := "fnStaleTimeParts", unfollowed := true, recurses := true, named := ["math/bits.deBruijn32tab"], apart := false, laid := [("math/bits.deBruijn32tab", laid_math_bits_deBruijn32tab)], narrowed := true }
def FnStaleTimePartsUptoSaid : Prop := fnStaleTimePartsUptoRow.holds Tryd.pinned (OpenSpec.upto fnStaleTimePartsSpec)

/-- 'laws.FnExactStaleTasks', WHERE WHAT IT READS IS OF BULK AT MOST 1048576: true; the input reads as it did. -/
def fnExactStaleTasksUptoRow : OpenClaim := { program := "ytimgkhapphipbaadoor", sum := "d3576e07fe37c86a260155c09cedc832c195823c25c1a5d88edd90163b52afcd", func := "loop.example/buildscheduler/laws.FnExactStaleTasks", spec := "fnExactStaleTasks", unfollowed := true, recurses := true, named := ["math/bits.deBruijn32tab"], apart := false, laid := [("math/bits.deBruijn32tab", laid_math_bits_deBruijn32tab)], narrowed := true }
def FnExactStaleTasksUptoSaid : Prop := fnExactStaleTasksUptoRow.holds Tryd.pinned (OpenSpec.upto fnExactStaleTasksSpec)

/-- 'laws.FnStaleTasksAgain', WHERE WHAT IT READS IS OF BULK AT MOST 1048576: true; the input reads as it did. -/
def fnStaleTasksAgainUptoRow : OpenClaim := { program := "ytimgkhapphipbaadoor", sum := "d3576e07fe37c86a260155c09cedc832c195823c25c1a5d88edd90163b52afcd", func := "loop.example/buildscheduler/laws.FnStaleTasksAgain", spec := "fnStaleTasksAgain", unfollowed := true, recurses := true, named := ["math/bits.deBruijn32tab"], apart := false, laid := [("math/bits.deBruijn32tab", laid_math_bits_deBruijn32tab)], narrowed := true }
def FnStaleTasksAgainUptoSaid : Prop := fnStaleTasksAgainUptoRow.holds Tryd.pinned (OpenSpec.upto fnStaleTasksAgainSpec)

/-- 'laws.FnStaleTasksMore', WHERE WHAT IT READS IS OF BULK AT MOST 1048576: true; the input reads as it did. -/
def fnStaleTasksMoreUptoRow : OpenClaim := { program := "ytimgkhapphipbaadoor", sum := "d3576e07fe37c86a260155c09cedc832c195823c25c1a5d88edd90163b52afcd", func := "loop.example/buildscheduler/laws.FnStaleTasksMore", spec := "fnStaleTasksMore", unfollowed := true, recurses := true, named := ["math/bits.deBruijn32tab"], apart := false, laid := [("math/bits.deBruijn32tab", laid_math_bits_deBruijn32tab)], narrowed := true }
def FnStaleTasksMoreUptoSaid : Prop := fnStaleTasksMoreUptoRow.holds Tryd.pinned (OpenSpec.upto fnStaleTasksMoreSpec)

/-- 'laws.FnStaleTime', WHERE WHAT IT READS IS OF BULK AT MOST 1048576: true; the input reads as it did. -/
def fnStaleTimeUptoRow : OpenClaim := { program := "ytimgkhapphipbaadoor", sum := "d3576e07fe37c86a260155c09cedc832c195823c25c1a5d88edd90163b52afcd", func := "loop.example/buildscheduler/laws.FnStaleTime", spec := "fnStaleTime", unfollowed := true, recurses := true, named := ["math/bits.deBruijn32tab"], apart := false, laid := [("math/bits.deBruijn32tab", laid_math_bits_deBruijn32tab)], narrowed := true }
def FnStaleTimeUptoSaid : Prop := fnStaleTimeUptoRow.holds Tryd.pinned (OpenSpec.upto fnStaleTimeSpec)

/-- 'laws.FnStaleTasks', WHERE WHAT IT READS IS OF BULK AT MOST 1048576: true; the input reads as it did. -/
def fnStaleTasksUptoRow : OpenClaim := { program := "ytimgkhapphipbaadoor", sum := "d3576e07fe37c86a260155c09cedc832c195823c25c1a5d88edd90163b52afcd", func := "loop.example/buildscheduler/laws.FnStaleTasks", spec := "fnStaleTasks", unfollowed := true, recurses := true, named := ["math/bits.deBruijn32tab"], apart := false, laid := [("math/bits.deBruijn32tab", laid_math_bits_deBruijn32tab)], narrowed := true }
def FnStaleTasksUptoSaid : Prop := fnStaleTasksUptoRow.holds Tryd.pinned (OpenSpec.upto fnStaleTasksSpec)

end Rows
end Go.Proofs.YtimgkhapphipbaaDoor
