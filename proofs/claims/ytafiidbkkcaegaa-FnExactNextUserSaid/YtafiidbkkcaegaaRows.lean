/-
  No cell of these rows narrows 'for every input' (looked for: loops, veiled, ifaces, maps, wideKeys, modest, calm, conditions, laid).
  DERIVED. THE GIVEN ROWS OF THIS SEAT. 6 by the template 'for every input the law returns true; each argument reads behind the call as it read before'; 0 by the template 'total and deterministic' (their statements: YtafiidbkkcaegaaTotals.lean).
  GIVEN WITH THE SEED: the statements are not yours to turn. If you find one false, say at which input.
  Laid BY PROGRAM, IN A SANDBOX (cutbox-rows.mjs): the forced cells as the released guide's own fill.sh prints them over the translation 02e2309f93d6453b… (all of the seat's roots in one cut). By AI agents, Wed Nov 11 2026. No macro, syntax, notation, axiom, sorry.
-/
import Derived.Test.YtafiidbkkcaegaaChecked
import GoSem.Claim
import GoSem.ClaimJoined
import GoSem.ClaimMapViews
import Derived.JoinedTies
import Derived.KernelRfl
namespace Go.Proofs.Ytafiidbkkcaegaa
/- THE CELL 'sum', in the pinned program and in every row, IS THE sha256 OF THE DUMP (.gsa) THAT YtafiidbkkcaegaaProg.lean LOADS. Nothing in Lean hashes anything: it is a label: what it is worth is what the hold of that sum in a sandbox is worth. -/
noncomputable def Try.pinned : Pinned := { name := "ytafiidbkkcaegaa", sum := "02e2309f93d6453becc937cb348fa43344ea564a750db9ee07121f065343a26f", checked := Try.checked }
namespace Rows
def none {H : Type} : Left H := { results := [], args := [] }

/-- 'laws.FnNextUser': WHATEVER THE INPUT: true; the input reads as it did. -/
def fnNextUserSpec : ChangeSpec := { name := "fnNextUser", fn := fun _ => fun
  | [d] => { results := [.lit (.bool true)], args := [d] }
  | _ => none }
def fnNextUserRow : OpenClaim := { program := "ytafiidbkkcaegaa", sum := "02e2309f93d6453becc937cb348fa43344ea564a750db9ee07121f065343a26f", func := "loop.example/buildscheduler/laws.FnNextUser", spec := "fnNextUser", unfollowed := true, recurses := true, apart := false }
def FnNextUserSaid : Prop := fnNextUserRow.holds Try.pinned (OpenSpec.ofChange fnNextUserSpec)

/-- ITS FALSE NEIGHBOUR: 'it returns false'. Refute it at one input. -/
def fnNextUserWrong : ChangeSpec := { name := "fnNextUser", fn := fun _ => fun
  | [d] => { results := [.lit (.bool false)], args := [d] }
  | _ => none }
def FnNextUserWrongFalsely : Prop := fnNextUserRow.holds Try.pinned (OpenSpec.ofChange fnNextUserWrong)

/-- 'laws.FnNextUserNone': WHATEVER THE INPUT: true; the input reads as it did. -/
def fnNextUserNoneSpec : ChangeSpec := { name := "fnNextUserNone", fn := fun _ => fun
  | [d] => { results := [.lit (.bool true)], args := [d] }
  | _ => none }
def fnNextUserNoneRow : OpenClaim := { program := "ytafiidbkkcaegaa", sum := "02e2309f93d6453becc937cb348fa43344ea564a750db9ee07121f065343a26f", func := "loop.example/buildscheduler/laws.FnNextUserNone", spec := "fnNextUserNone", unfollowed := true, recurses := true, apart := false }
def FnNextUserNoneSaid : Prop := fnNextUserNoneRow.holds Try.pinned (OpenSpec.ofChange fnNextUserNoneSpec)

/-- ITS FALSE NEIGHBOUR: 'it returns false'. Refute it at one input. -/
def fnNextUserNoneWrong : ChangeSpec := { name := "fnNextUserNone", fn := fun _ => fun
  | [d] => { results := [.lit (.bool false)], args := [d] }
  | _ => none }
def FnNextUserNoneWrongFalsely : Prop := fnNextUserNoneRow.holds Try.pinned (OpenSpec.ofChange fnNextUserNoneWrong)

/-- 'laws.FnNextUserShare': WHATEVER THE INPUT: true; the input reads as it did. -/
def fnNextUserShareSpec : ChangeSpec := { name := "fnNextUserShare", fn := fun _ => fun
  | [d] => { results := [.lit (.bool true)], args := [d] }
  | _ => none }
def fnNextUserShareRow : OpenClaim := { program := "ytafiidbkkcaegaa", sum := "02e2309f93d6453becc937cb348fa43344ea564a750db9ee07121f065343a26f", func := "loop.example/buildscheduler/laws.FnNextUserShare", spec := "fnNextUserShare", unfollowed := true, recurses := true, apart := false }
def FnNextUserShareSaid : Prop := fnNextUserShareRow.holds Try.pinned (OpenSpec.ofChange fnNextUserShareSpec)

/-- ITS FALSE NEIGHBOUR: 'it returns false'. Refute it at one input. -/
def fnNextUserShareWrong : ChangeSpec := { name := "fnNextUserShare", fn := fun _ => fun
  | [d] => { results := [.lit (.bool false)], args := [d] }
  | _ => none }
def FnNextUserShareWrongFalsely : Prop := fnNextUserShareRow.holds Try.pinned (OpenSpec.ofChange fnNextUserShareWrong)

/-- 'laws.FnExactNextUser': WHATEVER THE INPUT: true; the input reads as it did. -/
def fnExactNextUserSpec : ChangeSpec := { name := "fnExactNextUser", fn := fun _ => fun
  | [d] => { results := [.lit (.bool true)], args := [d] }
  | _ => none }
def fnExactNextUserRow : OpenClaim := { program := "ytafiidbkkcaegaa", sum := "02e2309f93d6453becc937cb348fa43344ea564a750db9ee07121f065343a26f", func := "loop.example/buildscheduler/laws.FnExactNextUser", spec := "fnExactNextUser", unfollowed := true, recurses := true, apart := false }
def FnExactNextUserSaid : Prop := fnExactNextUserRow.holds Try.pinned (OpenSpec.ofChange fnExactNextUserSpec)

/-- ITS FALSE NEIGHBOUR: 'it returns false'. Refute it at one input. -/
def fnExactNextUserWrong : ChangeSpec := { name := "fnExactNextUser", fn := fun _ => fun
  | [d] => { results := [.lit (.bool false)], args := [d] }
  | _ => none }
def FnExactNextUserWrongFalsely : Prop := fnExactNextUserRow.holds Try.pinned (OpenSpec.ofChange fnExactNextUserWrong)

/-- 'laws.FnServeUser': WHATEVER THE INPUT: true; the input reads as it did. -/
def fnServeUserSpec : ChangeSpec := { name := "fnServeUser", fn := fun _ => fun
  | [d] => { results := [.lit (.bool true)], args := [d] }
  | _ => none }
def fnServeUserRow : OpenClaim := { program := "ytafiidbkkcaegaa", sum := "02e2309f93d6453becc937cb348fa43344ea564a750db9ee07121f065343a26f", func := "loop.example/buildscheduler/laws.FnServeUser", spec := "fnServeUser", unfollowed := true, recurses := true, apart := false }
def FnServeUserSaid : Prop := fnServeUserRow.holds Try.pinned (OpenSpec.ofChange fnServeUserSpec)

/-- ITS FALSE NEIGHBOUR: 'it returns false'. Refute it at one input. -/
def fnServeUserWrong : ChangeSpec := { name := "fnServeUser", fn := fun _ => fun
  | [d] => { results := [.lit (.bool false)], args := [d] }
  | _ => none }
def FnServeUserWrongFalsely : Prop := fnServeUserRow.holds Try.pinned (OpenSpec.ofChange fnServeUserWrong)

/-- 'laws.FnServeUserNone': WHATEVER THE INPUT: true; the input reads as it did. -/
def fnServeUserNoneSpec : ChangeSpec := { name := "fnServeUserNone", fn := fun _ => fun
  | [d] => { results := [.lit (.bool true)], args := [d] }
  | _ => none }
def fnServeUserNoneRow : OpenClaim := { program := "ytafiidbkkcaegaa", sum := "02e2309f93d6453becc937cb348fa43344ea564a750db9ee07121f065343a26f", func := "loop.example/buildscheduler/laws.FnServeUserNone", spec := "fnServeUserNone", unfollowed := true, recurses := true, apart := false }
def FnServeUserNoneSaid : Prop := fnServeUserNoneRow.holds Try.pinned (OpenSpec.ofChange fnServeUserNoneSpec)

/-- ITS FALSE NEIGHBOUR: 'it returns false'. Refute it at one input. -/
def fnServeUserNoneWrong : ChangeSpec := { name := "fnServeUserNone", fn := fun _ => fun
  | [d] => { results := [.lit (.bool false)], args := [d] }
  | _ => none }
def FnServeUserNoneWrongFalsely : Prop := fnServeUserNoneRow.holds Try.pinned (OpenSpec.ofChange fnServeUserNoneWrong)

/- THE SECOND FORM. 'bulk': how many values and letters a reading holds, each counted each time it is reached (what is shared counts as often as it is met; a slice's spare places count too). A statement '..UptoSaid' is the law's where the arguments, and the package variables that the reading takes, are together of bulk at most 1048576: NARROWER than '..Said'. Prove '..Said' where nothing that the law and all that it calls make is longer than what came in: it says more and counts as full. Else prove '..UptoSaid'. A law counts once. -/
mutual
def uptoBulk {H : Type} : DataW H → Nat
  | .lit (.string bytes) => bytes.length + 1
  | .lit _ => 1
  | .nil => 1
  | .ptr d => uptoBulk d + 1
  | .slice elems spare => uptoBulkAll elems + uptoBulkAll spare + 1
  | .agg parts => uptoBulkAll parts + 1
  | .iface _ d => uptoBulk d + 1
  | .map entries => uptoBulkEntries entries + 1
  | .held _ => 1
def uptoBulkAll {H : Type} : List (DataW H) → Nat
  | [] => 0
  | d :: r => uptoBulk d + uptoBulkAll r
def uptoBulkEntries {H : Type} : List (Lit × DataW H) → Nat
  | [] => 0
  | x :: r => uptoBulkEntry x + uptoBulkEntries r
def uptoBulkEntry {H : Type} : Lit × DataW H → Nat
  | (.string bytes, d) => bytes.length + uptoBulk d + 1
  | (_, d) => uptoBulk d + 1
 end
def uptoSmall : (H : Type) → List (DataW H) → Bool := fun _ ds => decide (uptoBulkAll ds ≤ 1048576)
def OpenSpec.upto (s : _root_.Go.ChangeSpec) : _root_.Go.OpenSpec := { _root_.Go.OpenSpec.ofChange s with cond := some uptoSmall }

/-- 'laws.FnNextUser', WHERE WHAT IT READS IS OF BULK AT MOST 1048576: true; the input reads as it did. -/
def fnNextUserUptoRow : OpenClaim := { program := "ytafiidbkkcaegaa", sum := "02e2309f93d6453becc937cb348fa43344ea564a750db9ee07121f065343a26f", func := "loop.example/buildscheduler/laws.FnNextUser", spec := "fnNextUser", unfollowed := true, recurses := true, apart := false, narrowed := true }
def FnNextUserUptoSaid : Prop := fnNextUserUptoRow.holds Try.pinned (OpenSpec.upto fnNextUserSpec)

/-- 'laws.FnNextUserNone', WHERE WHAT IT READS IS OF BULK AT MOST 1048576: true; the input reads as it did. -/
def fnNextUserNoneUptoRow : OpenClaim := { program := "ytafiidbkkcaegaa", sum := "02e2309f93d6453becc937cb348fa43344ea564a750db9ee07121f065343a26f", func := "loop.example/buildscheduler/laws.FnNextUserNone", spec := "fnNextUserNone", unfollowed := true, recurses := true, apart := false, narrowed := true }
def FnNextUserNoneUptoSaid : Prop := fnNextUserNoneUptoRow.holds Try.pinned (OpenSpec.upto fnNextUserNoneSpec)

/-- 'laws.FnNextUserShare', WHERE WHAT IT READS IS OF BULK AT MOST 1048576: true; the input reads as it did. -/
def fnNextUserShareUptoRow : OpenClaim := { program := "ytafiidbkkcaegaa", sum := "02e2309f93d6453becc937cb348fa43344ea564a750db9ee07121f065343a26f", func := "loop.example/buildscheduler/laws.FnNextUserShare", spec := "fnNextUserShare", unfollowed := true, recurses := true, apart := false, narrowed := true }
def FnNextUserShareUptoSaid : Prop := fnNextUserShareUptoRow.holds Try.pinned (OpenSpec.upto fnNextUserShareSpec)

/-- 'laws.FnExactNextUser', WHERE WHAT IT READS IS OF BULK AT MOST 1048576: true; the input reads as it did. -/
def fnExactNextUserUptoRow : OpenClaim := { program := "ytafiidbkkcaegaa", sum := "02e2309f93d6453becc937cb348fa43344ea564a750db9ee07121f065343a26f", func := "loop.example/buildscheduler/laws.FnExactNextUser", spec := "fnExactNextUser", unfollowed := true, recurses := true, apart := false, narrowed := true }
def FnExactNextUserUptoSaid : Prop := fnExactNextUserUptoRow.holds Try.pinned (OpenSpec.upto fnExactNextUserSpec)

/-- 'laws.FnServeUser', WHERE WHAT IT READS IS OF BULK AT MOST 1048576: true; the input reads as it did. -/
def fnServeUserUptoRow : OpenClaim := { program := "ytafiidbkkcaegaa", sum := "02e2309f93d6453becc937cb348fa43344ea564a750db9ee07121f065343a26f", func := "loop.example/buildscheduler/laws.FnServeUser", spec := "fnServeUser", unfollowed := true, recurses := true, apart := false, narrowed := true }
def FnServeUserUptoSaid : Prop := fnServeUserUptoRow.holds Try.pinned (OpenSpec.upto fnServeUserSpec)

/-- 'laws.FnServeUserNone', WHERE WHAT IT READS IS OF BULK AT MOST 1048576: true; the input reads as it did. -/
def fnServeUserNoneUptoRow : OpenClaim := { program := "ytafiidbkkcaegaa", sum := "02e2309f93d6453becc937cb348fa43344ea564a750db9ee07121f065343a26f", func := "loop.example/buildscheduler/laws.FnServeUserNone", spec := "fnServeUserNone", unfollowed := true, recurses := true, apart := false, narrowed := true }
def FnServeUserNoneUptoSaid : Prop := fnServeUserNoneUptoRow.holds Try.pinned (OpenSpec.upto fnServeUserNoneSpec)

end Rows
end Go.Proofs.Ytafiidbkkcaegaa
