/-
  No cell of these rows narrows 'for every input' (looked for: loops, veiled, ifaces, maps, wideKeys, modest, calm, conditions, laid).
  DERIVED. THE GIVEN ROWS OF THIS SEAT. 6 by the template 'for every input the law returns true; each argument reads behind the call as it read before'; 0 by the template 'total and deterministic' (their statements: YtacenlcdlopjbaaTotals.lean).
  GIVEN WITH THE SEED: the statements are not yours to turn. If you find one false, say at which input.
  Laid BY PROGRAM, IN A SANDBOX (cutbox-rows.mjs): the forced cells as the released guide's own fill.sh prints them over the translation 8b9871dbcddda96d… (all of the seat's roots in one cut). By AI agents, Wed Nov 11 2026. No macro, syntax, notation, axiom, sorry.
-/
import Derived.Test.YtacenlcdlopjbaaChecked
import GoSem.Claim
import GoSem.ClaimJoined
import GoSem.ClaimMapViews
import Derived.JoinedTies
import Derived.KernelRfl
namespace Go.Proofs.Ytacenlcdlopjbaa
/- THE CELL 'sum', in the pinned program and in every row, IS THE sha256 OF THE DUMP (.gsa) THAT YtacenlcdlopjbaaProg.lean LOADS. Nothing in Lean hashes anything: it is a label: what it is worth is what the hold of that sum in a sandbox is worth. -/
noncomputable def Try.pinned : Pinned := { name := "ytacenlcdlopjbaa", sum := "8b9871dbcddda96d2aaa20f94103959eda96ab6c8da25b05c9606eee8d5df3df", checked := Try.checked }
namespace Rows
def none {H : Type} : Left H := { results := [], args := [] }

/-- 'laws.FnServeAllCount': WHATEVER THE INPUT: true; the input reads as it did. -/
def fnServeAllCountSpec : ChangeSpec := { name := "fnServeAllCount", fn := fun _ => fun
  | [d] => { results := [.lit (.bool true)], args := [d] }
  | _ => none }
def fnServeAllCountRow : OpenClaim := { program := "ytacenlcdlopjbaa", sum := "8b9871dbcddda96d2aaa20f94103959eda96ab6c8da25b05c9606eee8d5df3df", func := "loop.example/buildscheduler/laws.FnServeAllCount", spec := "fnServeAllCount", unfollowed := true, recurses := true, apart := false }
def FnServeAllCountSaid : Prop := fnServeAllCountRow.holds Try.pinned (OpenSpec.ofChange fnServeAllCountSpec)

/-- ITS FALSE NEIGHBOUR: 'it returns false'. Refute it at one input. -/
def fnServeAllCountWrong : ChangeSpec := { name := "fnServeAllCount", fn := fun _ => fun
  | [d] => { results := [.lit (.bool false)], args := [d] }
  | _ => none }
def FnServeAllCountWrongFalsely : Prop := fnServeAllCountRow.holds Try.pinned (OpenSpec.ofChange fnServeAllCountWrong)

/-- 'laws.FnServeAllFair': WHATEVER THE INPUT: true; the input reads as it did. -/
def fnServeAllFairSpec : ChangeSpec := { name := "fnServeAllFair", fn := fun _ => fun
  | [d] => { results := [.lit (.bool true)], args := [d] }
  | _ => none }
def fnServeAllFairRow : OpenClaim := { program := "ytacenlcdlopjbaa", sum := "8b9871dbcddda96d2aaa20f94103959eda96ab6c8da25b05c9606eee8d5df3df", func := "loop.example/buildscheduler/laws.FnServeAllFair", spec := "fnServeAllFair", unfollowed := true, recurses := true, apart := false }
def FnServeAllFairSaid : Prop := fnServeAllFairRow.holds Try.pinned (OpenSpec.ofChange fnServeAllFairSpec)

/-- ITS FALSE NEIGHBOUR: 'it returns false'. Refute it at one input. -/
def fnServeAllFairWrong : ChangeSpec := { name := "fnServeAllFair", fn := fun _ => fun
  | [d] => { results := [.lit (.bool false)], args := [d] }
  | _ => none }
def FnServeAllFairWrongFalsely : Prop := fnServeAllFairRow.holds Try.pinned (OpenSpec.ofChange fnServeAllFairWrong)

/-- 'laws.FnExactServeUser': WHATEVER THE INPUT: true; the input reads as it did. -/
def fnExactServeUserSpec : ChangeSpec := { name := "fnExactServeUser", fn := fun _ => fun
  | [d1, d2] => { results := [.lit (.bool true)], args := [d1, d2] }
  | _ => none }
def fnExactServeUserRow : OpenClaim := { program := "ytacenlcdlopjbaa", sum := "8b9871dbcddda96d2aaa20f94103959eda96ab6c8da25b05c9606eee8d5df3df", func := "loop.example/buildscheduler/laws.FnExactServeUser", spec := "fnExactServeUser", unfollowed := true, recurses := true, apart := false }
def FnExactServeUserSaid : Prop := fnExactServeUserRow.holds Try.pinned (OpenSpec.ofChange fnExactServeUserSpec)

/-- ITS FALSE NEIGHBOUR: 'it returns false'. Refute it at one input. -/
def fnExactServeUserWrong : ChangeSpec := { name := "fnExactServeUser", fn := fun _ => fun
  | [d1, d2] => { results := [.lit (.bool false)], args := [d1, d2] }
  | _ => none }
def FnExactServeUserWrongFalsely : Prop := fnExactServeUserRow.holds Try.pinned (OpenSpec.ofChange fnExactServeUserWrong)

/-- 'laws.FnServeAll': WHATEVER THE INPUT: true; the input reads as it did. -/
def fnServeAllSpec : ChangeSpec := { name := "fnServeAll", fn := fun _ => fun
  | [d] => { results := [.lit (.bool true)], args := [d] }
  | _ => none }
def fnServeAllRow : OpenClaim := { program := "ytacenlcdlopjbaa", sum := "8b9871dbcddda96d2aaa20f94103959eda96ab6c8da25b05c9606eee8d5df3df", func := "loop.example/buildscheduler/laws.FnServeAll", spec := "fnServeAll", unfollowed := true, recurses := true, apart := false }
def FnServeAllSaid : Prop := fnServeAllRow.holds Try.pinned (OpenSpec.ofChange fnServeAllSpec)

/-- ITS FALSE NEIGHBOUR: 'it returns false'. Refute it at one input. -/
def fnServeAllWrong : ChangeSpec := { name := "fnServeAll", fn := fun _ => fun
  | [d] => { results := [.lit (.bool false)], args := [d] }
  | _ => none }
def FnServeAllWrongFalsely : Prop := fnServeAllRow.holds Try.pinned (OpenSpec.ofChange fnServeAllWrong)

/-- 'laws.FnServeAllStep': WHATEVER THE INPUT: true; the input reads as it did. -/
def fnServeAllStepSpec : ChangeSpec := { name := "fnServeAllStep", fn := fun _ => fun
  | [d] => { results := [.lit (.bool true)], args := [d] }
  | _ => none }
def fnServeAllStepRow : OpenClaim := { program := "ytacenlcdlopjbaa", sum := "8b9871dbcddda96d2aaa20f94103959eda96ab6c8da25b05c9606eee8d5df3df", func := "loop.example/buildscheduler/laws.FnServeAllStep", spec := "fnServeAllStep", unfollowed := true, recurses := true, apart := false }
def FnServeAllStepSaid : Prop := fnServeAllStepRow.holds Try.pinned (OpenSpec.ofChange fnServeAllStepSpec)

/-- ITS FALSE NEIGHBOUR: 'it returns false'. Refute it at one input. -/
def fnServeAllStepWrong : ChangeSpec := { name := "fnServeAllStep", fn := fun _ => fun
  | [d] => { results := [.lit (.bool false)], args := [d] }
  | _ => none }
def FnServeAllStepWrongFalsely : Prop := fnServeAllStepRow.holds Try.pinned (OpenSpec.ofChange fnServeAllStepWrong)

/-- 'laws.FnExactServeAll': WHATEVER THE INPUT: true; the input reads as it did. -/
def fnExactServeAllSpec : ChangeSpec := { name := "fnExactServeAll", fn := fun _ => fun
  | [d1, d2] => { results := [.lit (.bool true)], args := [d1, d2] }
  | _ => none }
def fnExactServeAllRow : OpenClaim := { program := "ytacenlcdlopjbaa", sum := "8b9871dbcddda96d2aaa20f94103959eda96ab6c8da25b05c9606eee8d5df3df", func := "loop.example/buildscheduler/laws.FnExactServeAll", spec := "fnExactServeAll", unfollowed := true, recurses := true, apart := false }
def FnExactServeAllSaid : Prop := fnExactServeAllRow.holds Try.pinned (OpenSpec.ofChange fnExactServeAllSpec)

/-- ITS FALSE NEIGHBOUR: 'it returns false'. Refute it at one input. -/
def fnExactServeAllWrong : ChangeSpec := { name := "fnExactServeAll", fn := fun _ => fun
  | [d1, d2] => { results := [.lit (.bool false)], args := [d1, d2] }
  | _ => none }
def FnExactServeAllWrongFalsely : Prop := fnExactServeAllRow.holds Try.pinned (OpenSpec.ofChange fnExactServeAllWrong)

/- THE SECOND FORM. 'bulk': how many values and letters a reading holds, each counted each time it is reached (what is shared counts as often as it is met; a slice's spare places count too). A statement '..UptoSaid' is the law's where the arguments, and the package variables that the reading takes, are together of bulk at most 1048576: NARROWER than '..Said'. Prove '..Said' where nothing that the law and all that it calls make is longer than what came in: it says more and counts as full. Else prove '..UptoSaid'. A law counts once. -/
mutual
def uptoBulk {H : Type} : DataW H → Nat
  | .lit (.string bytes) => bytes.length + 1
  | .lit _ => 1
  | .nil => 1
  | .ptr d => uptoBulk d + 1
  | .slice elems spare => uptoBulkAll elems + uptoBulkAll spare + 1
  | .agg parts => uptoBulkAll parts + 1
  | .iface _ d => uptoBulk d + 1
  | .map entries => uptoBulkEntries entries + 1
  | .held _ => 1
def uptoBulkAll {H : Type} : List (DataW H) → Nat
  | [] => 0
  | d :: r => uptoBulk d + uptoBulkAll r
def uptoBulkEntries {H : Type} : List (Lit × DataW H) → Nat
  | [] => 0
  | x :: r => uptoBulkEntry x + uptoBulkEntries r
def uptoBulkEntry {H : Type} : Lit × DataW H → Nat
  | (.string bytes, d) => bytes.length + uptoBulk d + 1
  | (_, d) => uptoBulk d + 1
 end
def uptoSmall : (H : Type) → List (DataW H) → Bool := fun _ ds => decide (uptoBulkAll ds ≤ 1048576)
def OpenSpec.upto (s : _root_.Go.ChangeSpec) : _root_.Go.OpenSpec := { _root_.Go.OpenSpec.ofChange s with cond := some uptoSmall }

/-- 'laws.FnServeAllCount', WHERE WHAT IT READS IS OF BULK AT MOST 1048576: true; the input reads as it did. -/
def fnServeAllCountUptoRow : OpenClaim := { program := "ytacenlcdlopjbaa", sum := "8b9871dbcddda96d2aaa20f94103959eda96ab6c8da25b05c9606eee8d5df3df", func := "loop.example/buildscheduler/laws.FnServeAllCount", spec := "fnServeAllCount", unfollowed := true, recurses := true, apart := false, narrowed := true }
def FnServeAllCountUptoSaid : Prop := fnServeAllCountUptoRow.holds Try.pinned (OpenSpec.upto fnServeAllCountSpec)

/-- 'laws.FnServeAllFair', WHERE WHAT IT READS IS OF BULK AT MOST 1048576: true; the input reads as it did. -/
def fnServeAllFairUptoRow : OpenClaim := { program := "ytacenlcdlopjbaa", sum := "8b9871dbcddda96d2aaa20f94103959eda96ab6c8da25b05c9606eee8d5df3df", func := "loop.example/buildscheduler/laws.FnServeAllFair", spec := "fnServeAllFair", unfollowed := true, recurses := true, apart := false, narrowed := true }
def FnServeAllFairUptoSaid : Prop := fnServeAllFairUptoRow.holds Try.pinned (OpenSpec.upto fnServeAllFairSpec)

/-- 'laws.FnExactServeUser', WHERE WHAT IT READS IS OF BULK AT MOST 1048576: true; the input reads as it did. -/
def fnExactServeUserUptoRow : OpenClaim := { program := "ytacenlcdlopjbaa", sum := "8b9871dbcddda96d2aaa20f94103959eda96ab6c8da25b05c9606eee8d5df3df", func := "loop.example/buildscheduler/laws.FnExactServeUser", spec := "fnExactServeUser", unfollowed := true, recurses := true, apart := false, narrowed := true }
def FnExactServeUserUptoSaid : Prop := fnExactServeUserUptoRow.holds Try.pinned (OpenSpec.upto fnExactServeUserSpec)

/-- 'laws.FnServeAll', WHERE WHAT IT READS IS OF BULK AT MOST 1048576: true; the input reads as it did. -/
def fnServeAllUptoRow : OpenClaim := { program := "ytacenlcdlopjbaa", sum := "8b9871dbcddda96d2aaa20f94103959eda96ab6c8da25b05c9606eee8d5df3df", func := "loop.example/buildscheduler/laws.FnServeAll", spec := "fnServeAll", unfollowed := true, recurses := true, apart := false, narrowed := true }
def FnServeAllUptoSaid : Prop := fnServeAllUptoRow.holds Try.pinned (OpenSpec.upto fnServeAllSpec)

/-- 'laws.FnServeAllStep', WHERE WHAT IT READS IS OF BULK AT MOST 1048576: true; the input reads as it did. -/
def fnServeAllStepUptoRow : OpenClaim := { program := "ytacenlcdlopjbaa", sum := "8b9871dbcddda96d2aaa20f94103959eda96ab6c8da25b05c9606eee8d5df3df", func := "loop.example/buildscheduler/laws.FnServeAllStep", spec := "fnServeAllStep", unfollowed := true, recurses := true, apart := false, narrowed := true }
def FnServeAllStepUptoSaid : Prop := fnServeAllStepUptoRow.holds Try.pinned (OpenSpec.upto fnServeAllStepSpec)

/-- 'laws.FnExactServeAll', WHERE WHAT IT READS IS OF BULK AT MOST 1048576: true; the input reads as it did. -/
def fnExactServeAllUptoRow : OpenClaim := { program := "ytacenlcdlopjbaa", sum := "8b9871dbcddda96d2aaa20f94103959eda96ab6c8da25b05c9606eee8d5df3df", func := "loop.example/buildscheduler/laws.FnExactServeAll", spec := "fnExactServeAll", unfollowed := true, recurses := true, apart := false, narrowed := true }
def FnExactServeAllUptoSaid : Prop := fnExactServeAllUptoRow.holds Try.pinned (OpenSpec.upto fnExactServeAllSpec)

end Rows
end Go.Proofs.Ytacenlcdlopjbaa
