/- FnExactDoneBy: for all arguments the program's DoneBy returns what the reference returns, leaves its arguments alone, and its result shares no memory with them or with a later result. Nothing is assumed. -/
-- Written by rows.py of this session: the row of the law FnExactDoneBy, out of its plain law and the contract of its function.
import Derived.Test.YtkafmfabkbmpbaaDoorRows
import Derived.Test.YtkafmfabkbmpbaaDoorCards
import Derived.Test.YtkafmfabkbmpbaaDoorTie
import Derived.Test.YtkafmfabkbmpbaaDoorLFnExactDoneBy
import Derived.Test.YtkafmfabkbmpbaaDoorPureFnExactDoneBy
import Derived.Test.YtkafmfabkbmpbaaDoorWSized
import Derived.Test.YtkafmfabkbmpbaaDoorRDoor
import Derived.WalkKit
import Derived.ProofKit
import Derived.OpenShut
import Derived.ShutString
import Derived.ChangeOld
import Derived.Below
import Derived.SizedLaws
import Derived.SevenTiedAt
import Derived.LaidByTextLater
import Derived.Lay
import Derived.Handed
namespace Go.Proofs.YtkafmfabkbmpbaaDoor.fnExactDoneByRow
open Go.ChangeShapes Go.WideShapes Go.ChangeAt Go.RowKit Go.Proofs.YtkafmfabkbmpbaaDoorW.PrintWords
open Go.ChangeMaps (open_string shut_string)
set_option linter.unusedVariables false
theorem own : ownKnob Tryd.prog.godebug = none := by kernel_rfl
theorem laidOut : laidOutB Tryd.prog = true := by kernel_rfl
set_option maxRecDepth 100000 in
theorem lifted (os : Os) (started : os.Started) (H : Type) (enc : TypeId × Value → H) :
    ReturnsInHanded {} Tryd.checked os 3 .any (fun w args => (Rows.fnExactDoneBySpec.pre enc Tryd.prog Tryd.f3 Rows.fnExactDoneByRow.domain false w args ∧ laidMet Tryd.prog Rows.fnExactDoneByRow.laid w) ∧ sizedMet enc Tryd.prog Tryd.f3 (OpenSpec.ofChange Rows.fnExactDoneBySpec) false w args) (Rows.fnExactDoneBySpec.post enc Tryd.prog Tryd.f3 false true false false) := by
  refine returnsInHanded_of_change_and (C := Tryd.checked) (X := fun w _ => laidMet Tryd.prog Rows.fnExactDoneByRow.laid w) (fun _ _ _ hh h => h.of_heap hh) own started (by kernel_rfl) Tryd.func3
    (ChangeSpec.witness_at (enc := enc) (C := Tryd.checked) (os := os) (X := fun w _ => laidMet Tryd.prog Rows.fnExactDoneByRow.laid w) false (World.laidAll Tryd.prog os Rows.fnExactDoneByRow.laid) #[.slice none 0 0, .slice none 0 0, .int .i64 0] 8 (World.laidAll_os _ _ _) (by kernel_rfl) (by kernel_rfl) (by kernel_rfl) (by kernel_rfl) (by kernel_rfl) (laidMet_laidAll _ (by kernel_rfl) (by kernel_rfl))) ?_
  intro W base args ds gs before hval0 hW hcnd hsz0 hL _
  have hsz : (DataW.weightsEach Tryd.prog (Tryd.f3.params.toList ++ Rows.fnExactDoneBySpec.plain.varTypes Tryd.prog) (ds ++ gs)).all (· ≤ reachBytes) = true := hsz0
  have hval : ∀ (j : Nat) t v, Tryd.f3.params[j]? = some t → args[j]? = some v → Value.okWide Tryd.prog W .any base t v := hval0
  have hW' := hW
  obtain ⟨p, q, hA0, hV, rfl, hfz, hnd⟩ := hW
  have hA : DataW.TrodAll enc Tryd.prog W 0 (fun _ => true) true Tryd.f3.params.toList args.toList ds p := hA0
  rw [Tryd.params3] at hA hval hsz
  obtain ⟨v0, vs0, d0, ds0, p0, q0, hargs, rfl, rfl, h0, r0⟩ := trodAll_cons hA
  obtain ⟨v1, vs1, d1, ds1, p1, q1, rfl, rfl, rfl, h1, r1⟩ := trodAll_cons r0
  obtain ⟨v2, vs2, d2, ds2, p2, q2, rfl, rfl, rfl, h2, r2⟩ := trodAll_cons r1
  obtain ⟨rfl, rfl, rfl⟩ := trodAll_nil r2
  obtain rfl : args = #[v0, v1, v2] := by cases args; simp_all
  obtain ⟨rfl, rfl⟩ := trodVars_none hV
  obtain ⟨a0, len0, cap0, rfl⟩ := okWide_slice Tryd.underlying22 (hval 0 22 v0 rfl rfl)
  have k0 := h0
  have lt0 : ∀ x ∈ p0, x.block < W.heap.size := by obtain ⟨m, hm⟩ := k0; exact DataW.trod_lt m _ _ _ hm
  obtain ⟨l0, w0, cc0, rr0⟩ : ∃ xs : List G.S44, len0 = xs.length ∧ xs.length ≤ cap0 ∧ Kd.C G.k44 W a0 xs.length xs := by
    obtain ⟨fuel, hf⟩ := h0
    exact G.lift_row G.k44 Tryd.underlying22 (by kernel_rfl) G.rdT44 (by simpa [Value.cells] using hf)
  subst w0
  obtain ⟨a1, len1, cap1, rfl⟩ := okWide_slice Tryd.underlying23 (hval 1 23 v1 rfl rfl)
  have k1 := h1
  have lt1 : ∀ x ∈ p1, x.block < W.heap.size := by obtain ⟨m, hm⟩ := k1; exact DataW.trod_lt m _ _ _ hm
  obtain ⟨l1, w1, cc1, rr1⟩ : ∃ xs : List G.S50, len1 = xs.length ∧ xs.length ≤ cap1 ∧ Kd.C G.k50 W a1 xs.length xs := by
    obtain ⟨fuel, hf⟩ := h1
    exact G.lift_row G.k50 Tryd.underlying23 (by kernel_rfl) G.rdT50 (by simpa [Value.cells] using hf)
  subst w1
  obtain ⟨a2, rfl, rfl, rfl, w2⟩ := open_int Tryd.underlying3 (hval 2 3 v2 rfl rfl) h2
  clear hA0 hval0 hsz0 hsz
  obtain ⟨k, hk⟩ := G.pureFnExactDoneBy l0 l1 a2 (G.C_len rr0) (G.okT44 rr0) (G.C_len rr1) w2
  refine (G.laws_FnExactDoneBy.calls k _ _ l0 _ _ l1 a2 true W rr0 cc0 rr1 cc1 hk (G.tab_of_laid hL)).mono fun e W' ⟨he, bel⟩ => ?_
  subst he
  exact ⟨_, rfl, _, _, _, [], _, [], hW', trodAll_mk1 (shut_bool Tryd.underlying4 _), (trodAll_cons_mk (Below.trod laidOut (by kernel_rfl) (of_decide_eq_true (by kernel_rfl)) k0 bel lt0) (trodAll_cons_mk (Below.trod laidOut (by kernel_rfl) (of_decide_eq_true (by kernel_rfl)) k1 bel lt1) (trodAll_cons_mk (shut_int Tryd.underlying3 w2) trodAll_mk0))), rfl, bel.frame _, fun h => by cases h⟩
theorem over : Rows.fnExactDoneByRow.holds Tryd.pinned (OpenSpec.ofChange Rows.fnExactDoneBySpec) :=
  OpenClaim.holds_of_wide 3 Tryd.f3 rfl rfl rfl rfl rfl rfl rfl ⟨rfl, rfl, rfl, rfl, rfl⟩ rfl rfl rfl rfl rfl (by kernel_rfl) Tryd.func3 (by kernel_rfl)
    (of_decide_eq_true (by kernel_rfl)) (by unfold Func.isWrapper; first | (rw [if_pos (by decide +kernel)]; kernel_rfl) | (rw [if_neg (by decide +kernel)]; exact ⟨rfl, rfl⟩))
    (fun os started H enc _ => lifted os started H enc)
end Go.Proofs.YtkafmfabkbmpbaaDoor.fnExactDoneByRow
namespace Go.Proofs.YtkafmfabkbmpbaaDoor
set_option maxRecDepth 100000 in
/-- The law's card: its row, what it lists tied to the program's text. -/
theorem fnExactDoneBy_holds : Rows.FnExactDoneByCardSaid :=
  Claim7.holds_tied_plain_at .later [] [.data] true (true, "d632421aeb7b76973f819a3e15a946ef74ea642a726d2290c6e5694b7dabab4d") false
    fnExactDoneByRow.over (fun _ h => by cases h) (by kernel_rfl) (fun _ h => by cases h) fnExactDoneBy_row_tie rfl ⟨rfl, rfl⟩ (by kernel_rfl) (by decide)
    (fun f fn hf hfn => by
      obtain rfl : f = 3 := (Option.some.inj ((show Tryd.prog.funcNamed "loop.example/buildscheduler/laws.FnExactDoneBy" = some 3 by kernel_rfl).symm.trans hf)).symm
      obtain rfl : fn = Tryd.f3 := (Option.some.inj (Tryd.func3.symm.trans hfn)).symm
      refine ⟨by kernel_rfl, fun j t ht => ?_⟩
      rw [Tryd.params3] at ht
      match j, ht with
      | 0, ht =>
        obtain rfl : t = 22 := by simpa using ht.symm
        exact (by kernel_rfl : Tryd.pinned.checked.prog.wantsStandIn 22 = false)
      | 1, ht =>
        obtain rfl : t = 23 := by simpa using ht.symm
        exact (by kernel_rfl : Tryd.pinned.checked.prog.wantsStandIn 23 = false)
      | 2, ht =>
        obtain rfl : t = 3 := by simpa using ht.symm
        exact (by kernel_rfl : Tryd.pinned.checked.prog.wantsStandIn 3 = false)
      | j + 3, ht => simp at ht)
    (by kernel_rfl)
#print axioms fnExactDoneBy_holds
end Go.Proofs.YtkafmfabkbmpbaaDoor
