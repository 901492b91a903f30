/-
  No cell of these rows narrows 'for every input' (looked for: loops, veiled, ifaces, maps, wideKeys, modest, calm, conditions, laid).
  DERIVED. THE GIVEN ROWS OF THIS SEAT. 6 by the template 'for every input the law returns true; each argument reads behind the call as it read before'; 0 by the template 'total and deterministic' (their statements: YthddfbhdiljobaaTotals.lean).
  GIVEN WITH THE SEED: the statements are not yours to turn. If you find one false, say at which input.
  Laid BY PROGRAM, IN A SANDBOX (cutbox-rows.mjs): the forced cells as the released guide's own fill.sh prints them over the translation 4858e2be86b8d405… (all of the seat's roots in one cut). By AI agents, Wed Nov 11 2026. No macro, syntax, notation, axiom, sorry.
-/
import Derived.Test.YthddfbhdiljobaaChecked
import GoSem.Claim
import GoSem.ClaimJoined
import GoSem.ClaimMapViews
import Derived.JoinedTies
import Derived.KernelRfl
namespace Go.Proofs.Ythddfbhdiljobaa
/- THE CELL 'sum', in the pinned program and in every row, IS THE sha256 OF THE DUMP (.gsa) THAT YthddfbhdiljobaaProg.lean LOADS. Nothing in Lean hashes anything: it is a label: what it is worth is what the hold of that sum in a sandbox is worth. -/
noncomputable def Try.pinned : Pinned := { name := "ythddfbhdiljobaa", sum := "4858e2be86b8d40567243939f941eeb72bec003e03e39f27b261457e943c2036", checked := Try.checked }
namespace Rows
def none {H : Type} : Left H := { results := [], args := [] }

/-- 'laws.FnValidUsers': WHATEVER THE INPUT: true; the input reads as it did. -/
def fnValidUsersSpec : ChangeSpec := { name := "fnValidUsers", fn := fun _ => fun
  | [d] => { results := [.lit (.bool true)], args := [d] }
  | _ => none }
def fnValidUsersRow : OpenClaim := { program := "ythddfbhdiljobaa", sum := "4858e2be86b8d40567243939f941eeb72bec003e03e39f27b261457e943c2036", func := "loop.example/buildscheduler/laws.FnValidUsers", spec := "fnValidUsers", apart := false }
def FnValidUsersSaid : Prop := fnValidUsersRow.holds Try.pinned (OpenSpec.ofChange fnValidUsersSpec)

/-- ITS FALSE NEIGHBOUR: 'it returns false'. Refute it at one input. -/
def fnValidUsersWrong : ChangeSpec := { name := "fnValidUsers", fn := fun _ => fun
  | [d] => { results := [.lit (.bool false)], args := [d] }
  | _ => none }
def FnValidUsersWrongFalsely : Prop := fnValidUsersRow.holds Try.pinned (OpenSpec.ofChange fnValidUsersWrong)

/-- 'laws.FnExactValidUsers': WHATEVER THE INPUT: true; the input reads as it did. -/
def fnExactValidUsersSpec : ChangeSpec := { name := "fnExactValidUsers", fn := fun _ => fun
  | [d] => { results := [.lit (.bool true)], args := [d] }
  | _ => none }
def fnExactValidUsersRow : OpenClaim := { program := "ythddfbhdiljobaa", sum := "4858e2be86b8d40567243939f941eeb72bec003e03e39f27b261457e943c2036", func := "loop.example/buildscheduler/laws.FnExactValidUsers", spec := "fnExactValidUsers", apart := false }
def FnExactValidUsersSaid : Prop := fnExactValidUsersRow.holds Try.pinned (OpenSpec.ofChange fnExactValidUsersSpec)

/-- ITS FALSE NEIGHBOUR: 'it returns false'. Refute it at one input. -/
def fnExactValidUsersWrong : ChangeSpec := { name := "fnExactValidUsers", fn := fun _ => fun
  | [d] => { results := [.lit (.bool false)], args := [d] }
  | _ => none }
def FnExactValidUsersWrongFalsely : Prop := fnExactValidUsersRow.holds Try.pinned (OpenSpec.ofChange fnExactValidUsersWrong)

/-- 'laws.FnFairPartsEqual': WHATEVER THE INPUT: true; the input reads as it did. -/
def fnFairPartsEqualSpec : ChangeSpec := { name := "fnFairPartsEqual", fn := fun _ => fun
  | [d] => { results := [.lit (.bool true)], args := [d] }
  | _ => none }
def fnFairPartsEqualRow : OpenClaim := { program := "ythddfbhdiljobaa", sum := "4858e2be86b8d40567243939f941eeb72bec003e03e39f27b261457e943c2036", func := "loop.example/buildscheduler/laws.FnFairPartsEqual", spec := "fnFairPartsEqual", apart := false }
def FnFairPartsEqualSaid : Prop := fnFairPartsEqualRow.holds Try.pinned (OpenSpec.ofChange fnFairPartsEqualSpec)

/-- ITS FALSE NEIGHBOUR: 'it returns false'. Refute it at one input. -/
def fnFairPartsEqualWrong : ChangeSpec := { name := "fnFairPartsEqual", fn := fun _ => fun
  | [d] => { results := [.lit (.bool false)], args := [d] }
  | _ => none }
def FnFairPartsEqualWrongFalsely : Prop := fnFairPartsEqualRow.holds Try.pinned (OpenSpec.ofChange fnFairPartsEqualWrong)

/-- 'laws.FnFairPartsUsed': WHATEVER THE INPUT: true; the input reads as it did. -/
def fnFairPartsUsedSpec : ChangeSpec := { name := "fnFairPartsUsed", fn := fun _ => fun
  | [d] => { results := [.lit (.bool true)], args := [d] }
  | _ => none }
def fnFairPartsUsedRow : OpenClaim := { program := "ythddfbhdiljobaa", sum := "4858e2be86b8d40567243939f941eeb72bec003e03e39f27b261457e943c2036", func := "loop.example/buildscheduler/laws.FnFairPartsUsed", spec := "fnFairPartsUsed", apart := false }
def FnFairPartsUsedSaid : Prop := fnFairPartsUsedRow.holds Try.pinned (OpenSpec.ofChange fnFairPartsUsedSpec)

/-- ITS FALSE NEIGHBOUR: 'it returns false'. Refute it at one input. -/
def fnFairPartsUsedWrong : ChangeSpec := { name := "fnFairPartsUsed", fn := fun _ => fun
  | [d] => { results := [.lit (.bool false)], args := [d] }
  | _ => none }
def FnFairPartsUsedWrongFalsely : Prop := fnFairPartsUsedRow.holds Try.pinned (OpenSpec.ofChange fnFairPartsUsedWrong)

/-- 'laws.FnFairParts': WHATEVER THE INPUT: true; the input reads as it did. -/
def fnFairPartsSpec : ChangeSpec := { name := "fnFairParts", fn := fun _ => fun
  | [d] => { results := [.lit (.bool true)], args := [d] }
  | _ => none }
def fnFairPartsRow : OpenClaim := { program := "ythddfbhdiljobaa", sum := "4858e2be86b8d40567243939f941eeb72bec003e03e39f27b261457e943c2036", func := "loop.example/buildscheduler/laws.FnFairParts", spec := "fnFairParts", apart := false }
def FnFairPartsSaid : Prop := fnFairPartsRow.holds Try.pinned (OpenSpec.ofChange fnFairPartsSpec)

/-- ITS FALSE NEIGHBOUR: 'it returns false'. Refute it at one input. -/
def fnFairPartsWrong : ChangeSpec := { name := "fnFairParts", fn := fun _ => fun
  | [d] => { results := [.lit (.bool false)], args := [d] }
  | _ => none }
def FnFairPartsWrongFalsely : Prop := fnFairPartsRow.holds Try.pinned (OpenSpec.ofChange fnFairPartsWrong)

/-- 'laws.FnExactFairParts': WHATEVER THE INPUT: true; the input reads as it did. -/
def fnExactFairPartsSpec : ChangeSpec := { name := "fnExactFairParts", fn := fun _ => fun
  | [d1, d2] => { results := [.lit (.bool true)], args := [d1, d2] }
  | _ => none }
def fnExactFairPartsRow : OpenClaim := { program := "ythddfbhdiljobaa", sum := "4858e2be86b8d40567243939f941eeb72bec003e03e39f27b261457e943c2036", func := "loop.example/buildscheduler/laws.FnExactFairParts", spec := "fnExactFairParts", apart := false }
def FnExactFairPartsSaid : Prop := fnExactFairPartsRow.holds Try.pinned (OpenSpec.ofChange fnExactFairPartsSpec)

/-- ITS FALSE NEIGHBOUR: 'it returns false'. Refute it at one input. -/
def fnExactFairPartsWrong : ChangeSpec := { name := "fnExactFairParts", fn := fun _ => fun
  | [d1, d2] => { results := [.lit (.bool false)], args := [d1, d2] }
  | _ => none }
def FnExactFairPartsWrongFalsely : Prop := fnExactFairPartsRow.holds Try.pinned (OpenSpec.ofChange fnExactFairPartsWrong)

/- THE SECOND FORM. 'bulk': how many values and letters a reading holds, each counted each time it is reached (what is shared counts as often as it is met; a slice's spare places count too). A statement '..UptoSaid' is the law's where the arguments, and the package variables that the reading takes, are together of bulk at most 1048576: NARROWER than '..Said'. Prove '..Said' where nothing that the law and all that it calls make is longer than what came in: it says more and counts as full. Else prove '..UptoSaid'. A law counts once. -/
mutual
def uptoBulk {H : Type} : DataW H → Nat
  | .lit (.string bytes) => bytes.length + 1
  | .lit _ => 1
  | .nil => 1
  | .ptr d => uptoBulk d + 1
  | .slice elems spare => uptoBulkAll elems + uptoBulkAll spare + 1
  | .agg parts => uptoBulkAll parts + 1
  | .iface _ d => uptoBulk d + 1
  | .map entries => uptoBulkEntries entries + 1
  | .held _ => 1
def uptoBulkAll {H : Type} : List (DataW H) → Nat
  | [] => 0
  | d :: r => uptoBulk d + uptoBulkAll r
def uptoBulkEntries {H : Type} : List (Lit × DataW H) → Nat
  | [] => 0
  | x :: r => uptoBulkEntry x + uptoBulkEntries r
def uptoBulkEntry {H : Type} : Lit × DataW H → Nat
  | (.string bytes, d) => bytes.length + uptoBulk d + 1
  | (_, d) => uptoBulk d + 1
 end
def uptoSmall : (H : Type) → List (DataW H) → Bool := fun _ ds => decide (uptoBulkAll ds ≤ 1048576)
def OpenSpec.upto (s : _root_.Go.ChangeSpec) : _root_.Go.OpenSpec := { _root_.Go.OpenSpec.ofChange s with cond := some uptoSmall }

/-- 'laws.FnValidUsers', WHERE WHAT IT READS IS OF BULK AT MOST 1048576: true; the input reads as it did. -/
def fnValidUsersUptoRow : OpenClaim := { program := "ythddfbhdiljobaa", sum := "4858e2be86b8d40567243939f941eeb72bec003e03e39f27b261457e943c2036", func := "loop.example/buildscheduler/laws.FnValidUsers", spec := "fnValidUsers", apart := false, narrowed := true }
def FnValidUsersUptoSaid : Prop := fnValidUsersUptoRow.holds Try.pinned (OpenSpec.upto fnValidUsersSpec)

/-- 'laws.FnExactValidUsers', WHERE WHAT IT READS IS OF BULK AT MOST 1048576: true; the input reads as it did. -/
def fnExactValidUsersUptoRow : OpenClaim := { program := "ythddfbhdiljobaa", sum := "4858e2be86b8d40567243939f941eeb72bec003e03e39f27b261457e943c2036", func := "loop.example/buildscheduler/laws.FnExactValidUsers", spec := "fnExactValidUsers", apart := false, narrowed := true }
def FnExactValidUsersUptoSaid : Prop := fnExactValidUsersUptoRow.holds Try.pinned (OpenSpec.upto fnExactValidUsersSpec)

/-- 'laws.FnFairPartsEqual', WHERE WHAT IT READS IS OF BULK AT MOST 1048576: true; the input reads as it did. -/
def fnFairPartsEqualUptoRow : OpenClaim := { program := "ythddfbhdiljobaa", sum := "4858e2be86b8d40567243939f941eeb72bec003e03e39f27b261457e943c2036", func := "loop.example/buildscheduler/laws.FnFairPartsEqual", spec := "fnFairPartsEqual", apart := false, narrowed := true }
def FnFairPartsEqualUptoSaid : Prop := fnFairPartsEqualUptoRow.holds Try.pinned (OpenSpec.upto fnFairPartsEqualSpec)

/-- 'laws.FnFairPartsUsed', WHERE WHAT IT READS IS OF BULK AT MOST 1048576: true; the input reads as it did. -/
def fnFairPartsUsedUptoRow : OpenClaim := { program := "ythddfbhdiljobaa", sum := "4858e2be86b8d40567243939f941eeb72bec003e03e39f27b261457e943c2036", func := "loop.example/buildscheduler/laws.FnFairPartsUsed", spec := "fnFairPartsUsed", apart := false, narrowed := true }
def FnFairPartsUsedUptoSaid : Prop := fnFairPartsUsedUptoRow.holds Try.pinned (OpenSpec.upto fnFairPartsUsedSpec)

/-- 'laws.FnFairParts', WHERE WHAT IT READS IS OF BULK AT MOST 1048576: true; the input reads as it did. -/
def fnFairPartsUptoRow : OpenClaim := { program := "ythddfbhdiljobaa", sum := "4858e2be86b8d40567243939f941eeb72bec003e03e39f27b261457e943c2036", func := "loop.example/buildscheduler/laws.FnFairParts", spec := "fnFairParts", apart := false, narrowed := true }
def FnFairPartsUptoSaid : Prop := fnFairPartsUptoRow.holds Try.pinned (OpenSpec.upto fnFairPartsSpec)

/-- 'laws.FnExactFairParts', WHERE WHAT IT READS IS OF BULK AT MOST 1048576: true; the input reads as it did. -/
def fnExactFairPartsUptoRow : OpenClaim := { program := "ythddfbhdiljobaa", sum := "4858e2be86b8d40567243939f941eeb72bec003e03e39f27b261457e943c2036", func := "loop.example/buildscheduler/laws.FnExactFairParts", spec := "fnExactFairParts", apart := false, narrowed := true }
def FnExactFairPartsUptoSaid : Prop := fnExactFairPartsUptoRow.holds Try.pinned (OpenSpec.upto fnExactFairPartsSpec)

end Rows
end Go.Proofs.Ythddfbhdiljobaa
