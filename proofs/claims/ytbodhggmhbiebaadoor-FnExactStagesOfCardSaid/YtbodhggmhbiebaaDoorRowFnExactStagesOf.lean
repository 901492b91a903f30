/- FnExactStagesOf: for all arguments the program's StagesOf returns what the reference returns, leaves its arguments alone, and its result shares no memory with them or with a later result. Nothing is assumed. -/
-- Written by rows.py of this session: the row of the law FnExactStagesOf, out of its plain law and the contract of its function.
import Derived.Test.YtbodhggmhbiebaaDoorRows
import Derived.Test.YtbodhggmhbiebaaDoorCards
import Derived.Test.YtbodhggmhbiebaaDoorTie
import Derived.Test.YtbodhggmhbiebaaDoorLFnExactStagesOf
import Derived.Test.YtbodhggmhbiebaaDoorPureFnExactStagesOf
import Derived.Test.YtbodhggmhbiebaaDoorWSized
import Derived.Test.YtbodhggmhbiebaaDoorRDoor
import Derived.WalkKit
import Derived.ProofKit
import Derived.OpenShut
import Derived.ShutString
import Derived.ChangeOld
import Derived.Below
import Derived.SizedLaws
import Derived.SevenTiedAt
import Derived.LaidByTextLater
import Derived.Lay
import Derived.Handed
namespace Go.Proofs.YtbodhggmhbiebaaDoor.fnExactStagesOfRow
open Go.ChangeShapes Go.WideShapes Go.ChangeAt Go.RowKit Go.Proofs.YtbodhggmhbiebaaDoorW.PrintWords
open Go.ChangeMaps (open_string shut_string)
set_option linter.unusedVariables false
theorem own : ownKnob Tryd.prog.godebug = none := by kernel_rfl
theorem laidOut : laidOutB Tryd.prog = true := by kernel_rfl
set_option maxRecDepth 100000 in
theorem lifted (os : Os) (started : os.Started) (H : Type) (enc : TypeId × Value → H) :
    ReturnsInHanded {} Tryd.checked os 8 .any (fun w args => (Rows.fnExactStagesOfSpec.pre enc Tryd.prog Tryd.f8 Rows.fnExactStagesOfRow.domain false w args ∧ laidMet Tryd.prog Rows.fnExactStagesOfRow.laid w) ∧ sizedMet enc Tryd.prog Tryd.f8 (OpenSpec.ofChange Rows.fnExactStagesOfSpec) false w args) (Rows.fnExactStagesOfSpec.post enc Tryd.prog Tryd.f8 false true false false) := by
  refine returnsInHanded_of_change_and (C := Tryd.checked) (X := fun w _ => laidMet Tryd.prog Rows.fnExactStagesOfRow.laid w) (fun _ _ _ hh h => h.of_heap hh) own started (by kernel_rfl) Tryd.func8
    (ChangeSpec.witness_at (enc := enc) (C := Tryd.checked) (os := os) (X := fun w _ => laidMet Tryd.prog Rows.fnExactStagesOfRow.laid w) false (World.laidAll Tryd.prog os Rows.fnExactStagesOfRow.laid) #[.slice none 0 0] 8 (World.laidAll_os _ _ _) (by kernel_rfl) (by kernel_rfl) (by kernel_rfl) (by kernel_rfl) (by kernel_rfl) (laidMet_laidAll _ (by kernel_rfl) (by kernel_rfl))) ?_
  intro W base args ds gs before hval0 hW hcnd hsz0 hL _
  have hsz : (DataW.weightsEach Tryd.prog (Tryd.f8.params.toList ++ Rows.fnExactStagesOfSpec.plain.varTypes Tryd.prog) (ds ++ gs)).all (· ≤ reachBytes) = true := hsz0
  have hval : ∀ (j : Nat) t v, Tryd.f8.params[j]? = some t → args[j]? = some v → Value.okWide Tryd.prog W .any base t v := hval0
  have hW' := hW
  obtain ⟨p, q, hA0, hV, rfl, hfz, hnd⟩ := hW
  have hA : DataW.TrodAll enc Tryd.prog W 0 (fun _ => true) true Tryd.f8.params.toList args.toList ds p := hA0
  rw [Tryd.params8] at hA hval hsz
  obtain ⟨v0, vs0, d0, ds0, p0, q0, hargs, rfl, rfl, h0, r0⟩ := trodAll_cons hA
  obtain ⟨rfl, rfl, rfl⟩ := trodAll_nil r0
  obtain rfl : args = #[v0] := by cases args; simp_all
  obtain ⟨rfl, rfl⟩ := trodVars_none hV
  obtain ⟨a0, len0, cap0, rfl⟩ := okWide_slice Tryd.underlying36 (hval 0 36 v0 rfl rfl)
  have k0 := h0
  have lt0 : ∀ x ∈ p0, x.block < W.heap.size := by obtain ⟨m, hm⟩ := k0; exact DataW.trod_lt m _ _ _ hm
  obtain ⟨l0, w0, cc0, rr0⟩ : ∃ xs : List G.S64, len0 = xs.length ∧ xs.length ≤ cap0 ∧ Kd.C G.k64 W a0 xs.length xs := by
    obtain ⟨fuel, hf⟩ := h0
    exact G.lift_row G.k64 Tryd.underlying36 (by kernel_rfl) G.rdT64 (by simpa [Value.cells] using hf)
  subst w0
  clear hA0 hval0 hsz0 hsz
  obtain ⟨k, hk⟩ := G.pureFnExactStagesOf l0 (G.C_len rr0) (G.okT64 rr0)
  refine (G.laws_FnExactStagesOf.calls k _ _ l0 true W rr0 cc0 hk (G.tab_of_laid hL)).mono fun e W' ⟨he, bel⟩ => ?_
  subst he
  exact ⟨_, rfl, _, _, _, [], _, [], hW', trodAll_mk1 (shut_bool Tryd.underlying4 _), (trodAll_cons_mk (Below.trod laidOut (by kernel_rfl) (of_decide_eq_true (by kernel_rfl)) k0 bel lt0) trodAll_mk0), rfl, bel.frame _, fun h => by cases h⟩
theorem over : Rows.fnExactStagesOfRow.holds Tryd.pinned (OpenSpec.ofChange Rows.fnExactStagesOfSpec) :=
  OpenClaim.holds_of_wide 8 Tryd.f8 rfl rfl rfl rfl rfl rfl rfl ⟨rfl, rfl, rfl, rfl, rfl⟩ rfl rfl rfl rfl rfl (by kernel_rfl) Tryd.func8 (by kernel_rfl)
    (of_decide_eq_true (by kernel_rfl)) (by unfold Func.isWrapper; first | (rw [if_pos (by decide +kernel)]; kernel_rfl) | (rw [if_neg (by decide +kernel)]; exact ⟨rfl, rfl⟩))
    (fun os started H enc _ => lifted os started H enc)
end Go.Proofs.YtbodhggmhbiebaaDoor.fnExactStagesOfRow
namespace Go.Proofs.YtbodhggmhbiebaaDoor
set_option maxRecDepth 100000 in
/-- The law's card: its row, what it lists tied to the program's text. -/
theorem fnExactStagesOf_holds : Rows.FnExactStagesOfCardSaid :=
  Claim7.holds_tied_plain_at .later [] [.data] true (true, "2196a38e79bc741bd6f390c88d7fee7881b031fa909cf6173a97e95ebb4e1324") false
    fnExactStagesOfRow.over (fun _ h => by cases h) (by kernel_rfl) (fun _ h => by cases h) fnExactStagesOf_row_tie rfl ⟨rfl, rfl⟩ (by kernel_rfl) (by decide)
    (fun f fn hf hfn => by
      obtain rfl : f = 8 := (Option.some.inj ((show Tryd.prog.funcNamed "loop.example/buildscheduler/laws.FnExactStagesOf" = some 8 by kernel_rfl).symm.trans hf)).symm
      obtain rfl : fn = Tryd.f8 := (Option.some.inj (Tryd.func8.symm.trans hfn)).symm
      refine ⟨by kernel_rfl, fun j t ht => ?_⟩
      rw [Tryd.params8] at ht
      match j, ht with
      | 0, ht =>
        obtain rfl : t = 36 := by simpa using ht.symm
        exact (by kernel_rfl : Tryd.pinned.checked.prog.wantsStandIn 36 = false)
      | j + 1, ht => simp at ht)
    (by kernel_rfl)
#print axioms fnExactStagesOf_holds
end Go.Proofs.YtbodhggmhbiebaaDoor
