/- FnExactNextUser: for every list of users the program's NextUser answers what the reference answers, and leaves its argument alone. Nothing is assumed. -/
-- Written by rows.py of this session: the row of the law FnExactNextUser, out of its plain law and the contract of its function.
import Derived.Test.YtafiidbkkcaegaaRows
import Derived.Test.YtafiidbkkcaegaaLFnExactNextUser
import Derived.Test.YtafiidbkkcaegaaPureFnExactNextUser
import Derived.Test.YtafiidbkkcaegaaRLift
import Derived.Test.YtafiidbkkcaegaaWSized
import Derived.Test.YtafiidbkkcaegaaRTask
import Derived.WalkKit
import Derived.ProofKit
import Derived.OpenShut
import Derived.ShutString
import Derived.ChangeOld
import Derived.Below
import Derived.SizedLaws
namespace Go.Proofs.Ytafiidbkkcaegaa.fnExactNextUserRow
open Go.ChangeShapes Go.WideShapes Go.ChangeAt Go.RowKit Go.Proofs.YtafiidbkkcaegaaW.PrintWords
open Go.ChangeMaps (open_string shut_string)
set_option linter.unusedVariables false
theorem own : ownKnob Try.prog.godebug = none := by kernel_rfl
theorem laidOut : laidOutB Try.prog = true := by kernel_rfl
set_option maxRecDepth 100000 in
theorem lifted (os : Os) (started : os.Started) (H : Type) (enc : TypeId × Value → H) :
    ReturnsInHanded {} Try.checked os 6 .any (Rows.fnExactNextUserSpec.pre6 enc Try.prog Try.f6 Rows.fnExactNextUserRow.domain false) (Rows.fnExactNextUserSpec.post enc Try.prog Try.f6 false true false false) := by
  refine returnsInHanded_of_change_sized (C := Try.checked) own started (by kernel_rfl) Try.func6
    (ChangeSpec.witness6 (enc := enc) (C := Try.checked) false ⟨#[], #[.slice none 0 0], []⟩ 8 (by kernel_rfl) (by kernel_rfl) (by kernel_rfl) (by kernel_rfl)) ?_
  intro W base args ds gs before hval0 hW hcnd hsz0 _
  have hsz : (DataW.weightsEach Try.prog (Try.f6.params.toList ++ Rows.fnExactNextUserSpec.plain.varTypes Try.prog) (ds ++ gs)).all (· ≤ reachBytes) = true := hsz0
  have hval : ∀ (j : Nat) t v, Try.f6.params[j]? = some t → args[j]? = some v → Value.okWide Try.prog W .any base t v := hval0
  have hW' := hW
  obtain ⟨p, q, hA0, hV, rfl, hfz, hnd⟩ := hW
  have hA : DataW.TrodAll enc Try.prog W 0 (fun _ => true) true Try.f6.params.toList args.toList ds p := hA0
  rw [Try.params6] at hA hval hsz
  obtain ⟨v0, vs0, d0, ds0, p0, q0, hargs, rfl, rfl, h0, r0⟩ := trodAll_cons hA
  obtain ⟨rfl, rfl, rfl⟩ := trodAll_nil r0
  obtain rfl : args = #[v0] := by cases args; simp_all
  obtain ⟨rfl, rfl⟩ := trodVars_none hV
  obtain ⟨a0, len0, cap0, rfl⟩ := okWide_slice Try.underlying30 (hval 0 30 v0 rfl rfl)
  have k0 := h0
  have lt0 : ∀ x ∈ p0, x.block < W.heap.size := by obtain ⟨m, hm⟩ := k0; exact DataW.trod_lt m _ _ _ hm
  obtain ⟨l0, w0, cc0, rr0⟩ : ∃ xs : List G.S50, len0 = xs.length ∧ xs.length ≤ cap0 ∧ Kd.C G.k50 W a0 xs.length xs := by
    obtain ⟨fuel, hf⟩ := h0
    exact G.lift_row G.k50 Try.underlying30 (by kernel_rfl) G.rdT50 (by simpa [Value.cells] using hf)
  subst w0
  clear hA0 hval0 hsz0 hsz
  obtain ⟨k, hk⟩ := G.pureFnExactNextUser l0 (G.C_len rr0)
  refine (G.laws_FnExactNextUser.calls k _ _ l0 true W rr0 cc0 hk).mono fun e W' ⟨he, bel⟩ => ?_
  subst he
  exact ⟨_, rfl, _, _, _, [], _, [], hW', trodAll_mk1 (shut_bool Try.underlying4 _), (trodAll_cons_mk (Below.trod laidOut (by kernel_rfl) (of_decide_eq_true (by kernel_rfl)) k0 bel lt0) trodAll_mk0), rfl, bel.frame _, fun h => by cases h⟩
theorem over : Rows.fnExactNextUserRow.holds Try.pinned (OpenSpec.ofChange Rows.fnExactNextUserSpec) :=
  OpenClaim.holds_of_wide 6 Try.f6 rfl rfl rfl rfl rfl rfl rfl ⟨rfl, rfl, rfl, rfl, rfl⟩ rfl rfl rfl rfl rfl (by kernel_rfl) Try.func6 (by kernel_rfl)
    (of_decide_eq_true (by kernel_rfl)) (by unfold Func.isWrapper; first | (rw [if_pos (by decide +kernel)]; kernel_rfl) | (rw [if_neg (by decide +kernel)]; exact ⟨rfl, rfl⟩))
    (fun os started H enc _ => lifted os started H enc)
end Go.Proofs.Ytafiidbkkcaegaa.fnExactNextUserRow
namespace Go.Proofs.Ytafiidbkkcaegaa
/-- The law's row. -/
theorem fnExactNextUser_holds : Rows.FnExactNextUserSaid := fnExactNextUserRow.over
#print axioms fnExactNextUser_holds
end Go.Proofs.Ytafiidbkkcaegaa
