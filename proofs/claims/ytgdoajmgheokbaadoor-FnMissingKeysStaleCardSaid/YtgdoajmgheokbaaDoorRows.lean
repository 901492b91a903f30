/-
  NARROWER THAN 'FOR EVERY INPUT', by the rows' own cells (each row's printed sentence says how): FnStaleTasksDone: laid · FnTaskKeysChange: laid · FnMissingKeysStale: laid · FnOutcomesUsers: laid · FnCountOutcomeDone: laid · FnExactProgressOf: laid.
  DERIVED. THE GIVEN ROWS OF THIS SEAT. 6 by the template 'for every input the law returns true; each argument reads behind the call as it read before'; 0 by the template 'total and deterministic' (their statements: YtgdoajmgheokbaaDoorTotals.lean).
  GIVEN WITH THE SEED: the statements are not yours to turn. If you find one false, say at which input.
  Laid BY PROGRAM, IN A SANDBOX (cutbox-rows.mjs): the forced cells as the released guide's own fill.sh prints them over the translation e7ee41a3e630a106… (all of the seat's roots in one cut). By AI agents, Wed Nov 11 2026. No macro, syntax, notation, axiom, sorry.
-/
import Derived.Test.YtgdoajmgheokbaaDoorChecked
import GoSem.Claim
import GoSem.ClaimJoined
import GoSem.ClaimMapViews
import Derived.JoinedTies
import Derived.KernelRfl
namespace Go.Proofs.YtgdoajmgheokbaaDoor
/- THE CELL 'sum', in the pinned program and in every row, IS THE sha256 OF THE DUMP (.gsa) THAT YtgdoajmgheokbaaDoorProg.lean LOADS. Nothing in Lean hashes anything: it is a label: what it is worth is what the hold of that sum in a sandbox is worth. -/
noncomputable def Tryd.pinned : Pinned := { name := "ytgdoajmgheokbaadoor", sum := "e7ee41a3e630a106a90306192a57fb7f44a4fe3b5b38af4af876e6f8139190c2", checked := Tryd.checked }
namespace Rows
def none {H : Type} : Left H := { results := [], args := [] }

/- WHAT THE LISTED PACKAGE-LEVEL VARIABLES READ AS WHEN THE CALL BEGINS. Each datum BY PROGRAM (the guide's laid-datum.mjs) off the statement by which the dump's own 'gosem.cut.vars' lays the variable. In a bare row this is a premise. The card (YtgdoajmgheokbaaDoorCards.lean) ties it to the program's text. -/
def laid_math_bits_deBruijn32tab {H : Type} : DataW H := .agg [.lit (.int .u8 0), .lit (.int .u8 1), .lit (.int .u8 28), .lit (.int .u8 2), .lit (.int .u8 29), .lit (.int .u8 14), .lit (.int .u8 24), .lit (.int .u8 3), .lit (.int .u8 30), .lit (.int .u8 22), .lit (.int .u8 20), .lit (.int .u8 15), .lit (.int .u8 25), .lit (.int .u8 17), .lit (.int .u8 4), .lit (.int .u8 8), .lit (.int .u8 31), .lit (.int .u8 27), .lit (.int .u8 13), .lit (.int .u8 23), .lit (.int .u8 21), .lit (.int .u8 19), .lit (.int .u8 16), .lit (.int .u8 7), .lit (.int .u8 26), .lit (.int .u8 12), .lit (.int .u8 18), .lit (.int .u8 6), .lit (.int .u8 11), .lit (.int .u8 5), .lit (.int .u8 10), .lit (.int .u8 9)]

/-- 'laws.FnStaleTasksDone': WHATEVER THE INPUT: true; the input reads as it did. -/
def fnStaleTasksDoneSpec : ChangeSpec := { name := "fnStaleTasksDone", fn := fun _ => fun
  | [d] => { results := [.lit (.bool true)], args := [d] }
  | _ => none }
def fnStaleTasksDoneRow : OpenClaim := { program := "ytgdoajmgheokbaadoor", sum := "e7ee41a3e630a106a90306192a57fb7f44a4fe3b5b38af4af876e6f8139190c2", func := "loop.example/buildscheduler/laws.FnStaleTasksDone", spec := "fnStaleTasksDone", unfollowed := true, recurses := true, named := ["math/bits.deBruijn32tab"], apart := false, laid := [("math/bits.deBruijn32tab", laid_math_bits_deBruijn32tab)] }
def FnStaleTasksDoneSaid : Prop := fnStaleTasksDoneRow.holds Tryd.pinned (OpenSpec.ofChange fnStaleTasksDoneSpec)

/-- ITS FALSE NEIGHBOUR: 'it returns false'. Refute it at one input. -/
def fnStaleTasksDoneWrong : ChangeSpec := { name := "fnStaleTasksDone", fn := fun _ => fun
  | [d] => { results := [.lit (.bool false)], args := [d] }
  | _ => none }
def FnStaleTasksDoneWrongFalsely : Prop := fnStaleTasksDoneRow.holds Tryd.pinned (OpenSpec.ofChange fnStaleTasksDoneWrong)

/-- 'laws.FnTaskKeysChange': WHATEVER THE INPUT: true; the input reads as it did. -/
def fnTaskKeysChangeSpec : ChangeSpec := { name := "fnTaskKeysChange", fn := fun _ => fun
  | [d] => { results := [.lit (.bool true)], args := [d] }
  | _ => none }
def fnTaskKeysChangeRow : OpenClaim := { program := "ytgdoajmgheokbaadoor", sum := "e7ee41a3e630a106a90306192a57fb7f44a4fe3b5b38af4af876e6f8139190c2", func := "loop.example/buildscheduler/laws.FnTaskKeysChange", spec := "fnTaskKeysChange", unfollowed := true, recurses := true, named := ["math/bits.deBruijn32tab"], apart := false, laid := [("math/bits.deBruijn32tab", laid_math_bits_deBruijn32tab)] }
def FnTaskKeysChangeSaid : Prop := fnTaskKeysChangeRow.holds Tryd.pinned (OpenSpec.ofChange fnTaskKeysChangeSpec)

/-- ITS FALSE NEIGHBOUR: 'it returns false'. Refute it at one input. -/
def fnTaskKeysChangeWrong : ChangeSpec := { name := "fnTaskKeysChange", fn := fun _ => fun
  | [d] => { results := [.lit (.bool false)], args := [d] }
  | _ => none }
def FnTaskKeysChangeWrongFalsely : Prop := fnTaskKeysChangeRow.holds Tryd.pinned (OpenSpec.ofChange fnTaskKeysChangeWrong)

/-- 'laws.FnMissingKeysStale': WHATEVER THE INPUT: true; the input reads as it did. -/
def fnMissingKeysStaleSpec : ChangeSpec := { name := "fnMissingKeysStale", fn := fun _ => fun
  | [d] => { results := [.lit (.bool true)], args := [d] }
  | _ => none }
def fnMissingKeysStaleRow : OpenClaim := { program := "ytgdoajmgheokbaadoor", sum := "e7ee41a3e630a106a90306192a57fb7f44a4fe3b5b38af4af876e6f8139190c2", func := "loop.example/buildscheduler/laws.FnMissingKeysStale", spec := "fnMissingKeysStale", unfollowed := true, recurses := true, named := ["math/bits.deBruijn32tab"], apart := false, laid := [("math/bits.deBruijn32tab", laid_math_bits_deBruijn32tab)] }
def FnMissingKeysStaleSaid : Prop := fnMissingKeysStaleRow.holds Tryd.pinned (OpenSpec.ofChange fnMissingKeysStaleSpec)

/-- ITS FALSE NEIGHBOUR: 'it returns false'. Refute it at one input. -/
def fnMissingKeysStaleWrong : ChangeSpec := { name := "fnMissingKeysStale", fn := fun _ => fun
  | [d] => { results := [.lit (.bool false)], args := [d] }
  | _ => none }
def FnMissingKeysStaleWrongFalsely : Prop := fnMissingKeysStaleRow.holds Tryd.pinned (OpenSpec.ofChange fnMissingKeysStaleWrong)

/-- 'laws.FnOutcomesUsers': WHATEVER THE INPUT: true; the input reads as it did. -/
def fnOutcomesUsersSpec : ChangeSpec := { name := "fnOutcomesUsers", fn := fun _ => fun
  | [d] => { results := [.lit (.bool true)], args := [d] }
  | _ => none }
def fnOutcomesUsersRow : OpenClaim := { program := "ytgdoajmgheokbaadoor", sum := "e7ee41a3e630a106a90306192a57fb7f44a4fe3b5b38af4af876e6f8139190c2", func := "loop.example/buildscheduler/laws.FnOutcomesUsers", spec := "fnOutcomesUsers", unfollowed := true, recurses := true, named := ["math/bits.deBruijn32tab"], apart := false, laid := [("math/bits.deBruijn32tab", laid_math_bits_deBruijn32tab)] }
def FnOutcomesUsersSaid : Prop := fnOutcomesUsersRow.holds Tryd.pinned (OpenSpec.ofChange fnOutcomesUsersSpec)

/-- ITS FALSE NEIGHBOUR: 'it returns false'. Refute it at one input. -/
def fnOutcomesUsersWrong : ChangeSpec := { name := "fnOutcomesUsers", fn := fun _ => fun
  | [d] => { results := [.lit (.bool false)], args := [d] }
  | _ => none }
def FnOutcomesUsersWrongFalsely : Prop := fnOutcomesUsersRow.holds Tryd.pinned (OpenSpec.ofChange fnOutcomesUsersWrong)

/-- 'laws.FnCountOutcomeDone': WHATEVER THE INPUT: true; the input reads as it did. -/
def fnCountOutcomeDoneSpec : ChangeSpec := { name := "fnCountOutcomeDone", fn := fun _ => fun
  | [d] => { results := [.lit (.bool true)], args := [d] }
  | _ => none }
def fnCountOutcomeDoneRow : OpenClaim := { program := "ytgdoajmgheokbaadoor", sum := "e7ee41a3e630a106a90306192a57fb7f44a4fe3b5b38af4af876e6f8139190c2", func := "loop.example/buildscheduler/laws.FnCountOutcomeDone", spec := "fnCountOutcomeDone", unfollowed := true, recurses := true, named := ["math/bits.deBruijn32tab"], apart := false, laid := [("math/bits.deBruijn32tab", laid_math_bits_deBruijn32tab)] }
def FnCountOutcomeDoneSaid : Prop := fnCountOutcomeDoneRow.holds Tryd.pinned (OpenSpec.ofChange fnCountOutcomeDoneSpec)

/-- ITS FALSE NEIGHBOUR: 'it returns false'. Refute it at one input. -/
def fnCountOutcomeDoneWrong : ChangeSpec := { name := "fnCountOutcomeDone", fn := fun _ => fun
  | [d] => { results := [.lit (.bool false)], args := [d] }
  | _ => none }
def FnCountOutcomeDoneWrongFalsely : Prop := fnCountOutcomeDoneRow.holds Tryd.pinned (OpenSpec.ofChange fnCountOutcomeDoneWrong)

/-- 'laws.FnExactProgressOf': WHATEVER THE INPUT: true; the input reads as it did. -/
def fnExactProgressOfSpec : ChangeSpec := { name := "fnExactProgressOf", fn := fun _ => fun
  | [d1, d2] => { results := [.lit (.bool true)], args := [d1, d2] }
  | _ => none }
def fnExactProgressOfRow : OpenClaim := { program := "ytgdoajmgheokbaadoor", sum := "e7ee41a3e630a106a90306192a57fb7f44a4fe3b5b38af4af876e6f8139190c2", func := "loop.example/buildscheduler/laws.FnExactProgressOf", spec := "fnExactProgressOf", unfollowed := true, recurses := true, named := ["math/bits.deBruijn32tab"], apart := false, laid := [("math/bits.deBruijn32tab", laid_math_bits_deBruijn32tab)] }
def FnExactProgressOfSaid : Prop := fnExactProgressOfRow.holds Tryd.pinned (OpenSpec.ofChange fnExactProgressOfSpec)

/-- ITS FALSE NEIGHBOUR: 'it returns false'. Refute it at one input. -/
def fnExactProgressOfWrong : ChangeSpec := { name := "fnExactProgressOf", fn := fun _ => fun
  | [d1, d2] => { results := [.lit (.bool false)], args := [d1, d2] }
  | _ => none }
def FnExactProgressOfWrongFalsely : Prop := fnExactProgressOfRow.holds Tryd.pinned (OpenSpec.ofChange fnExactProgressOfWrong)

/- THE SECOND FORM. 'bulk': how many values and letters a reading holds, each counted each time it is reached (what is shared counts as often as it is met; a slice's spare places count too). A statement '..UptoSaid' is the law's where the arguments, and the package variables that the reading takes, are together of bulk at most 1048576: NARROWER than '..Said'. Prove '..Said' where nothing that the law and all that it calls make is longer than what came in: it says more and counts as full. Else prove '..UptoSaid'. A law counts once. -/
mutual
def uptoBulk {H : Type} : DataW H → Nat
  | .lit (.string bytes) => bytes.length + 1
  | .lit _ => 1
  | .nil => 1
  | .ptr d => uptoBulk d + 1
  | .slice elems spare => uptoBulkAll elems + uptoBulkAll spare + 1
  | .agg parts => uptoBulkAll parts + 1
  | .iface _ d => uptoBulk d + 1
  | .map entries => uptoBulkEntries entries + 1
  | .held _ => 1
def uptoBulkAll {H : Type} : List (DataW H) → Nat
  | [] => 0
  | d :: r => uptoBulk d + uptoBulkAll r
def uptoBulkEntries {H : Type} : List (Lit × DataW H) → Nat
  | [] => 0
  | x :: r => uptoBulkEntry x + uptoBulkEntries r
def uptoBulkEntry {H : Type} : Lit × DataW H → Nat
  | (.string bytes, d) => bytes.length + uptoBulk d + 1
  | (_, d) => uptoBulk d + 1
 end
def uptoSmall : (H : Type) → List (DataW H) → Bool := fun _ ds => decide (uptoBulkAll ds ≤ 1048576)
def OpenSpec.upto (s : _root_.Go.ChangeSpec) : _root_.Go.OpenSpec := { _root_.Go.OpenSpec.ofChange s with cond := some uptoSmall }

/-- 'laws.FnStaleTasksDone', WHERE WHAT IT READS IS OF BULK AT MOST 1048576: true; the input reads as it did. -/
def fnStaleTasksDoneUptoRow : OpenClaim := { program := "ytgdoajmgheokbaadoor", sum := "e7ee41a3e630a106a90306192a57fb7f44a4fe3b5b38af4af876e6f8139190c2", func := "loop.example/buildscheduler/laws.FnStaleTasksDone", spec := "fnStaleTasksDone", unfollowed := true, recurses := true, named := ["math/bits.deBruijn32tab"], apart := false, laid := [("math/bits.deBruijn32tab", laid_math_bits_deBruijn32tab)], narrowed := true }
def FnStaleTasksDoneUptoSaid : Prop := fnStaleTasksDoneUptoRow.holds Tryd.pinned (OpenSpec.upto fnStaleTasksDoneSpec)

/-- 'laws.FnTaskKeysChange', WHERE WHAT IT READS IS OF BULK AT MOST 1048576: true; the input reads as it did. -/
def fnTaskKeysChangeUptoRow : OpenClaim := { program := "ytgdoajmgheokbaadoor", sum := "e7ee41a3e630a106a90306192a57fb7f44a4fe3b5b38af4af876e6f8139190c2", func := "loop.example/buildscheduler/laws.FnTaskKeysChange", spec := "fnTaskKeysChange", unfollowed := true, recurses := true, named := ["math/bits.deBruijn32tab"], apart := false, laid := [("math/bits.deBruijn32tab", laid_math_bits_deBruijn32tab)], narrowed := true }
def FnTaskKeysChangeUptoSaid : Prop := fnTaskKeysChangeUptoRow.holds Tryd.pinned (OpenSpec.upto fnTaskKeysChangeSpec)

/-- 'laws.FnMissingKeysStale', WHERE WHAT IT READS IS OF BULK AT MOST 1048576: true; the input reads as it did. -/
def fnMissingKeysStaleUptoRow : OpenClaim := { program := "ytgdoajmgheokbaadoor", sum := "e7ee41a3e630a106a90306192a57fb7f44a4fe3b5b38af4af876e6f8139190c2", func := "loop.example/buildscheduler/laws.FnMissingKeysStale", spec := "fnMissingKeysStale", unfollowed := true, recurses := true, named := ["math/bits.deBruijn32tab"], apart := false, laid := [("math/bits.deBruijn32tab", laid_math_bits_deBruijn32tab)], narrowed := true }
def FnMissingKeysStaleUptoSaid : Prop := fnMissingKeysStaleUptoRow.holds Tryd.pinned (OpenSpec.upto fnMissingKeysStaleSpec)

/-- 'laws.FnOutcomesUsers', WHERE WHAT IT READS IS OF BULK AT MOST 1048576: true; the input reads as it did. -/
def fnOutcomesUsersUptoRow : OpenClaim := { program := "ytgdoajmgheokbaadoor", sum := "e7ee41a3e630a106a90306192a57fb7f44a4fe3b5b38af4af876e6f8139190c2", func := "loop.example/buildscheduler/laws.FnOutcomesUsers", spec := "fnOutcomesUsers", unfollowed := true, recurses := true, named := ["math/bits.deBruijn32tab"], apart := false, laid := [("math/bits.deBruijn32tab", laid_math_bits_deBruijn32tab)], narrowed := true }
def FnOutcomesUsersUptoSaid : Prop := fnOutcomesUsersUptoRow.holds Tryd.pinned (OpenSpec.upto fnOutcomesUsersSpec)

/-- 'laws.FnCountOutcomeDone', WHERE WHAT IT READS IS OF BULK AT MOST 1048576: true; the input reads as it did. -/
def fnCountOutcomeDoneUptoRow : OpenClaim := { program := "ytgdoajmgheokbaadoor", sum := "e7ee41a3e630a106a90306192a57fb7f44a4fe3b5b38af4af876e6f8139190c2", func := "loop.example/buildscheduler/laws.FnCountOutcomeDone", spec := "fnCountOutcomeDone", unfollowed := true, recurses := true, named := ["math/bits.deBruijn32tab"], apart := false, laid := [("math/bits.deBruijn32tab", laid_math_bits_deBruijn32tab)], narrowed := true }
def FnCountOutcomeDoneUptoSaid : Prop := fnCountOutcomeDoneUptoRow.holds Tryd.pinned (OpenSpec.upto fnCountOutcomeDoneSpec)

/-- 'laws.FnExactProgressOf', WHERE WHAT IT READS IS OF BULK AT MOST 1048576: true; the input reads as it did. -/
def fnExactProgressOfUptoRow : OpenClaim := { program := "ytgdoajmgheokbaadoor", sum := "e7ee41a3e630a106a90306192a57fb7f44a4fe3b5b38af4af876e6f8139190c2", func := "loop.example/buildscheduler/laws.FnExactProgressOf", spec := "fnExactProgressOf", unfollowed := true, recurses := true, named := ["math/bits.deBruijn32tab"], apart := false, laid := [("math/bits.deBruijn32tab", laid_math_bits_deBruijn32tab)], narrowed := true }
def FnExactProgressOfUptoSaid : Prop := fnExactProgressOfUptoRow.holds Tryd.pinned (OpenSpec.upto fnExactProgressOfSpec)

end Rows
end Go.Proofs.YtgdoajmgheokbaaDoor
