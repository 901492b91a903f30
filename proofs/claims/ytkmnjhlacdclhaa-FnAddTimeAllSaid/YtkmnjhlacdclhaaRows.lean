/-
  No cell of these rows narrows 'for every input' (looked for: loops, veiled, ifaces, maps, wideKeys, modest, calm, conditions, laid).
  DERIVED. THE GIVEN ROWS OF THIS SEAT. 7 by the template 'for every input the law returns true; each argument reads behind the call as it read before'; 0 by the template 'total and deterministic' (their statements: YtkmnjhlacdclhaaTotals.lean).
  GIVEN WITH THE SEED: the statements are not yours to turn. If you find one false, say at which input.
  Laid BY PROGRAM, IN A SANDBOX (cutbox-rows.mjs): the forced cells as the released guide's own fill.sh prints them over the translation f9cc06ebc5d1d285… (all of the seat's roots in one cut). By AI agents, Wed Nov 11 2026. No macro, syntax, notation, axiom, sorry.
-/
import Derived.Test.YtkmnjhlacdclhaaChecked
import GoSem.Claim
import GoSem.ClaimJoined
import GoSem.ClaimMapViews
import Derived.JoinedTies
import Derived.KernelRfl
namespace Go.Proofs.Ytkmnjhlacdclhaa
/- THE CELL 'sum', in the pinned program and in every row, IS THE sha256 OF THE DUMP (.gsa) THAT YtkmnjhlacdclhaaProg.lean LOADS. Nothing in Lean hashes anything: it is a label: what it is worth is what the hold of that sum in a sandbox is worth. -/
noncomputable def Try.pinned : Pinned := { name := "ytkmnjhlacdclhaa", sum := "f9cc06ebc5d1d2854760549766e9e0c275504cbc4bb0365978095fb56b32cb0e", checked := Try.checked }
namespace Rows
def none {H : Type} : Left H := { results := [], args := [] }

/-- 'laws.FnExactEstimateOf': WHATEVER THE INPUT: true; the input reads as it did. -/
def fnExactEstimateOfSpec : ChangeSpec := { name := "fnExactEstimateOf", fn := fun _ => fun
  | [d] => { results := [.lit (.bool true)], args := [d] }
  | _ => none }
def fnExactEstimateOfRow : OpenClaim := { program := "ytkmnjhlacdclhaa", sum := "f9cc06ebc5d1d2854760549766e9e0c275504cbc4bb0365978095fb56b32cb0e", func := "loop.example/buildscheduler/laws.FnExactEstimateOf", spec := "fnExactEstimateOf", unfollowed := true, recurses := true, apart := false }
def FnExactEstimateOfSaid : Prop := fnExactEstimateOfRow.holds Try.pinned (OpenSpec.ofChange fnExactEstimateOfSpec)

/-- ITS FALSE NEIGHBOUR: 'it returns false'. Refute it at one input. -/
def fnExactEstimateOfWrong : ChangeSpec := { name := "fnExactEstimateOf", fn := fun _ => fun
  | [d] => { results := [.lit (.bool false)], args := [d] }
  | _ => none }
def FnExactEstimateOfWrongFalsely : Prop := fnExactEstimateOfRow.holds Try.pinned (OpenSpec.ofChange fnExactEstimateOfWrong)

/-- 'laws.FnExactAddTime': WHATEVER THE INPUT: true; the input reads as it did. -/
def fnExactAddTimeSpec : ChangeSpec := { name := "fnExactAddTime", fn := fun _ => fun
  | [d1, d2] => { results := [.lit (.bool true)], args := [d1, d2] }
  | _ => none }
def fnExactAddTimeRow : OpenClaim := { program := "ytkmnjhlacdclhaa", sum := "f9cc06ebc5d1d2854760549766e9e0c275504cbc4bb0365978095fb56b32cb0e", func := "loop.example/buildscheduler/laws.FnExactAddTime", spec := "fnExactAddTime", unfollowed := true, recurses := true, apart := false }
def FnExactAddTimeSaid : Prop := fnExactAddTimeRow.holds Try.pinned (OpenSpec.ofChange fnExactAddTimeSpec)

/-- ITS FALSE NEIGHBOUR: 'it returns false'. Refute it at one input. -/
def fnExactAddTimeWrong : ChangeSpec := { name := "fnExactAddTime", fn := fun _ => fun
  | [d1, d2] => { results := [.lit (.bool false)], args := [d1, d2] }
  | _ => none }
def FnExactAddTimeWrongFalsely : Prop := fnExactAddTimeRow.holds Try.pinned (OpenSpec.ofChange fnExactAddTimeWrong)

/-- 'laws.FnEstimateOf': WHATEVER THE INPUT: true; the input reads as it did. -/
def fnEstimateOfSpec : ChangeSpec := { name := "fnEstimateOf", fn := fun _ => fun
  | [d] => { results := [.lit (.bool true)], args := [d] }
  | _ => none }
def fnEstimateOfRow : OpenClaim := { program := "ytkmnjhlacdclhaa", sum := "f9cc06ebc5d1d2854760549766e9e0c275504cbc4bb0365978095fb56b32cb0e", func := "loop.example/buildscheduler/laws.FnEstimateOf", spec := "fnEstimateOf", unfollowed := true, recurses := true, apart := false }
def FnEstimateOfSaid : Prop := fnEstimateOfRow.holds Try.pinned (OpenSpec.ofChange fnEstimateOfSpec)

/-- ITS FALSE NEIGHBOUR: 'it returns false'. Refute it at one input. -/
def fnEstimateOfWrong : ChangeSpec := { name := "fnEstimateOf", fn := fun _ => fun
  | [d] => { results := [.lit (.bool false)], args := [d] }
  | _ => none }
def FnEstimateOfWrongFalsely : Prop := fnEstimateOfRow.holds Try.pinned (OpenSpec.ofChange fnEstimateOfWrong)

/-- 'laws.FnEstimateOfLast': WHATEVER THE INPUT: true; the input reads as it did. -/
def fnEstimateOfLastSpec : ChangeSpec := { name := "fnEstimateOfLast", fn := fun _ => fun
  | [d] => { results := [.lit (.bool true)], args := [d] }
  | _ => none }
def fnEstimateOfLastRow : OpenClaim := { program := "ytkmnjhlacdclhaa", sum := "f9cc06ebc5d1d2854760549766e9e0c275504cbc4bb0365978095fb56b32cb0e", func := "loop.example/buildscheduler/laws.FnEstimateOfLast", spec := "fnEstimateOfLast", unfollowed := true, recurses := true, apart := false }
def FnEstimateOfLastSaid : Prop := fnEstimateOfLastRow.holds Try.pinned (OpenSpec.ofChange fnEstimateOfLastSpec)

/-- ITS FALSE NEIGHBOUR: 'it returns false'. Refute it at one input. -/
def fnEstimateOfLastWrong : ChangeSpec := { name := "fnEstimateOfLast", fn := fun _ => fun
  | [d] => { results := [.lit (.bool false)], args := [d] }
  | _ => none }
def FnEstimateOfLastWrongFalsely : Prop := fnEstimateOfLastRow.holds Try.pinned (OpenSpec.ofChange fnEstimateOfLastWrong)

/-- 'laws.FnEstimateOfMore': WHATEVER THE INPUT: true; the input reads as it did. -/
def fnEstimateOfMoreSpec : ChangeSpec := { name := "fnEstimateOfMore", fn := fun _ => fun
  | [d] => { results := [.lit (.bool true)], args := [d] }
  | _ => none }
def fnEstimateOfMoreRow : OpenClaim := { program := "ytkmnjhlacdclhaa", sum := "f9cc06ebc5d1d2854760549766e9e0c275504cbc4bb0365978095fb56b32cb0e", func := "loop.example/buildscheduler/laws.FnEstimateOfMore", spec := "fnEstimateOfMore", unfollowed := true, recurses := true, apart := false }
def FnEstimateOfMoreSaid : Prop := fnEstimateOfMoreRow.holds Try.pinned (OpenSpec.ofChange fnEstimateOfMoreSpec)

/-- ITS FALSE NEIGHBOUR: 'it returns false'. Refute it at one input. -/
def fnEstimateOfMoreWrong : ChangeSpec := { name := "fnEstimateOfMore", fn := fun _ => fun
  | [d] => { results := [.lit (.bool false)], args := [d] }
  | _ => none }
def FnEstimateOfMoreWrongFalsely : Prop := fnEstimateOfMoreRow.holds Try.pinned (OpenSpec.ofChange fnEstimateOfMoreWrong)

/-- 'laws.FnAddTime': WHATEVER THE INPUT: true; the input reads as it did. -/
def fnAddTimeSpec : ChangeSpec := { name := "fnAddTime", fn := fun _ => fun
  | [d] => { results := [.lit (.bool true)], args := [d] }
  | _ => none }
def fnAddTimeRow : OpenClaim := { program := "ytkmnjhlacdclhaa", sum := "f9cc06ebc5d1d2854760549766e9e0c275504cbc4bb0365978095fb56b32cb0e", func := "loop.example/buildscheduler/laws.FnAddTime", spec := "fnAddTime", unfollowed := true, recurses := true, apart := false }
def FnAddTimeSaid : Prop := fnAddTimeRow.holds Try.pinned (OpenSpec.ofChange fnAddTimeSpec)

/-- ITS FALSE NEIGHBOUR: 'it returns false'. Refute it at one input. -/
def fnAddTimeWrong : ChangeSpec := { name := "fnAddTime", fn := fun _ => fun
  | [d] => { results := [.lit (.bool false)], args := [d] }
  | _ => none }
def FnAddTimeWrongFalsely : Prop := fnAddTimeRow.holds Try.pinned (OpenSpec.ofChange fnAddTimeWrong)

/-- 'laws.FnAddTimeAll': WHATEVER THE INPUT: true; the input reads as it did. -/
def fnAddTimeAllSpec : ChangeSpec := { name := "fnAddTimeAll", fn := fun _ => fun
  | [d] => { results := [.lit (.bool true)], args := [d] }
  | _ => none }
def fnAddTimeAllRow : OpenClaim := { program := "ytkmnjhlacdclhaa", sum := "f9cc06ebc5d1d2854760549766e9e0c275504cbc4bb0365978095fb56b32cb0e", func := "loop.example/buildscheduler/laws.FnAddTimeAll", spec := "fnAddTimeAll", unfollowed := true, recurses := true, apart := false }
def FnAddTimeAllSaid : Prop := fnAddTimeAllRow.holds Try.pinned (OpenSpec.ofChange fnAddTimeAllSpec)

/-- ITS FALSE NEIGHBOUR: 'it returns false'. Refute it at one input. -/
def fnAddTimeAllWrong : ChangeSpec := { name := "fnAddTimeAll", fn := fun _ => fun
  | [d] => { results := [.lit (.bool false)], args := [d] }
  | _ => none }
def FnAddTimeAllWrongFalsely : Prop := fnAddTimeAllRow.holds Try.pinned (OpenSpec.ofChange fnAddTimeAllWrong)

/- THE SECOND FORM. 'bulk': how many values and letters a reading holds, each counted each time it is reached (what is shared counts as often as it is met; a slice's spare places count too). A statement '..UptoSaid' is the law's where the arguments, and the package variables that the reading takes, are together of bulk at most 1048576: NARROWER than '..Said'. Prove '..Said' where nothing that the law and all that it calls make is longer than what came in: it says more and counts as full. Else prove '..UptoSaid'. A law counts once. -/
mutual
def uptoBulk {H : Type} : DataW H → Nat
  | .lit (.string bytes) => bytes.length + 1
  | .lit _ => 1
  | .nil => 1
  | .ptr d => uptoBulk d + 1
  | .slice elems spare => uptoBulkAll elems + uptoBulkAll spare + 1
  | .agg parts => uptoBulkAll parts + 1
  | .iface _ d => uptoBulk d + 1
  | .map entries => uptoBulkEntries entries + 1
  | .held _ => 1
def uptoBulkAll {H : Type} : List (DataW H) → Nat
  | [] => 0
  | d :: r => uptoBulk d + uptoBulkAll r
def uptoBulkEntries {H : Type} : List (Lit × DataW H) → Nat
  | [] => 0
  | x :: r => uptoBulkEntry x + uptoBulkEntries r
def uptoBulkEntry {H : Type} : Lit × DataW H → Nat
  | (.string bytes, d) => bytes.length + uptoBulk d + 1
  | (_, d) => uptoBulk d + 1
 end
def uptoSmall : (H : Type) → List (DataW H) → Bool := fun _ ds => decide (uptoBulkAll ds ≤ 1048576)
def OpenSpec.upto (s : _root_.Go.ChangeSpec) : _root_.Go.OpenSpec := { _root_.Go.OpenSpec.ofChange s with cond := some uptoSmall }

/-- 'laws.FnExactEstimateOf', WHERE WHAT IT READS IS OF BULK AT MOST 1048576: true; the input reads as it did. -/
def fnExactEstimateOfUptoRow : OpenClaim := { program := "ytkmnjhlacdclhaa", sum := "f9cc06ebc5d1d2854760549766e9e0c275504cbc4bb0365978095fb56b32cb0e", func := "loop.example/buildscheduler/laws.FnExactEstimateOf", spec := "fnExactEstimateOf", unfollowed := true, recurses := true, apart := false, narrowed := true }
def FnExactEstimateOfUptoSaid : Prop := fnExactEstimateOfUptoRow.holds Try.pinned (OpenSpec.upto fnExactEstimateOfSpec)

/-- 'laws.FnExactAddTime', WHERE WHAT IT READS IS OF BULK AT MOST 1048576: true; the input reads as it did. -/
def fnExactAddTimeUptoRow : OpenClaim := { program := "ytkmnjhlacdclhaa", sum := "f9cc06ebc5d1d2854760549766e9e0c275504cbc4bb0365978095fb56b32cb0e", func := "loop.example/buildscheduler/laws.FnExactAddTime", spec := "fnExactAddTime", unfollowed := true, recurses := true, apart := false, narrowed := true }
def FnExactAddTimeUptoSaid : Prop := fnExactAddTimeUptoRow.holds Try.pinned (OpenSpec.upto fnExactAddTimeSpec)

/-- 'laws.FnEstimateOf', WHERE WHAT IT READS IS OF BULK AT MOST 1048576: true; the input reads as it did. -/
def fnEstimateOfUptoRow : OpenClaim := { program := "ytkmnjhlacdclhaa", sum := "f9cc06ebc5d1d2854760549766e9e0c275504cbc4bb0365978095fb56b32cb0e", func := "loop.example/buildscheduler/laws.FnEstimateOf", spec := "fnEstimateOf", unfollowed := true, recurses := true, apart := false, narrowed := true }
def FnEstimateOfUptoSaid : Prop := fnEstimateOfUptoRow.holds Try.pinned (OpenSpec.upto fnEstimateOfSpec)

/-- 'laws.FnEstimateOfLast', WHERE WHAT IT READS IS OF BULK AT MOST 1048576: true; the input reads as it did. -/
def fnEstimateOfLastUptoRow : OpenClaim := { program := "ytkmnjhlacdclhaa", sum := "f9cc06ebc5d1d2854760549766e9e0c275504cbc4bb0365978095fb56b32cb0e", func := "loop.example/buildscheduler/laws.FnEstimateOfLast", spec := "fnEstimateOfLast", unfollowed := true, recurses := true, apart := false, narrowed := true }
def FnEstimateOfLastUptoSaid : Prop := fnEstimateOfLastUptoRow.holds Try.pinned (OpenSpec.upto fnEstimateOfLastSpec)

/-- 'laws.FnEstimateOfMore', WHERE WHAT IT READS IS OF BULK AT MOST 1048576: true; the input reads as it did. -/
def fnEstimateOfMoreUptoRow : OpenClaim := { program := "ytkmnjhlacdclhaa", sum := "f9cc06ebc5d1d2854760549766e9e0c275504cbc4bb0365978095fb56b32cb0e", func := "loop.example/buildscheduler/laws.FnEstimateOfMore", spec := "fnEstimateOfMore", unfollowed := true, recurses := true, apart := false, narrowed := true }
def FnEstimateOfMoreUptoSaid : Prop := fnEstimateOfMoreUptoRow.holds Try.pinned (OpenSpec.upto fnEstimateOfMoreSpec)

/-- 'laws.FnAddTime', WHERE WHAT IT READS IS OF BULK AT MOST 1048576: true; the input reads as it did. -/
def fnAddTimeUptoRow : OpenClaim := { program := "ytkmnjhlacdclhaa", sum := "f9cc06ebc5d1d2854760549766e9e0c275504cbc4bb0365978095fb56b32cb0e", func := "loop.example/buildscheduler/laws.FnAddTime", spec := "fnAddTime", unfollowed := true, recurses := true, apart := false, narrowed := true }
def FnAddTimeUptoSaid : Prop := fnAddTimeUptoRow.holds Try.pinned (OpenSpec.upto fnAddTimeSpec)

/-- 'laws.FnAddTimeAll', WHERE WHAT IT READS IS OF BULK AT MOST 1048576: true; the input reads as it did. -/
def fnAddTimeAllUptoRow : OpenClaim := { program := "ytkmnjhlacdclhaa", sum := "f9cc06ebc5d1d2854760549766e9e0c275504cbc4bb0365978095fb56b32cb0e", func := "loop.example/buildscheduler/laws.FnAddTimeAll", spec := "fnAddTimeAll", unfollowed := true, recurses := true, apart := false, narrowed := true }
def FnAddTimeAllUptoSaid : Prop := fnAddTimeAllUptoRow.holds Try.pinned (OpenSpec.upto fnAddTimeAllSpec)

end Rows
end Go.Proofs.Ytkmnjhlacdclhaa
