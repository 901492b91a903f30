-- SLIM
-- Written by hyb.py, a driver of this session round the print.py of the kit. Lean checks it.
import Derived.Test.YtbodhggmhbiebaaDoorWRepsOne
import Derived.Test.YtbodhggmhbiebaaDoorWTab
import Derived.Test.YtbodhggmhbiebaaDoorG0
import Derived.Test.YtbodhggmhbiebaaDoorG3
import Derived.Test.YtbodhggmhbiebaaDoorG4
import Derived.Test.YtbodhggmhbiebaaDoorHDraw
import Derived.Test.YtbodhggmhbiebaaDoorHRel
import Derived.Test.YtbodhggmhbiebaaDoorHStage
namespace Go.Proofs.YtbodhggmhbiebaaDoor.G
open Go.RowKit Go.Proofs.YtbodhggmhbiebaaDoorW.PrintWords Go.Proofs.YtbodhggmhbiebaaDoorW.PrintLast Go.Proofs.YtbodhggmhbiebaaDoorW.PrintMore
attribute [local go_sem] max2_int min2_int max_two min_two max_three min_three max_four min_four   -- for this text's walks alone
set_option linter.unusedVariables false
set_option linter.unusedSimpArgs false

/-! ### laws_FnStageOfCount: function 4 -/
mutual
def laws_FnStageOfCount.j0 : Nat → List (S29) → List Int → Bool → Option (Bool)
 | 0, _, _, _ => none
 | k + 1, x3, x4, x24 => if x24 = true then ((spec_StageOf.f k x3).bind fun t292 => ((laws_equalInts.f k x4 t292).bind fun t295 => (some t295))) else (laws_FnStageOfCount.l0 k x3 x4 0)
def laws_FnStageOfCount.l0 : Nat → List (S29) → List Int → Int → Option (Bool)
 | 0, _, _, _ => none
 | k + 1, x3, x4, x5 => if x5 < (x3.length : Int) then (if 0 ≤ x5 then (if x5 < (x4.length : Int) then (if (rd x4 x5) < 0 then (some false) else (if (rd x4 x5) ≥ (x3.length : Int) then (some false) else ((impl_AllNeeds.f x3 x5).bind fun t299 => (if (rd x4 x5) > (t299.length : Int) then (some false) else (laws_FnStageOfCount.l0 k x3 x4 (wrap64 (x5 + 1))))))) else (none)) else (none)) else (some true)
end
def laws_FnStageOfCount.f (k : Nat) (l0 : List Int) : Option (Bool) := if (l0.length : Int) > 1048576 then (some true) else ((spec_DrawStageOf.f l0).bind fun t282 => ((impl_StageOf.f t282).bind fun t285 => ((spec_StageOf.f k t282).bind fun t288 => ((laws_equalInts.f k t285 t288).bind fun t291 => (if t291 = true then (laws_FnStageOfCount.j0 k t282 t285 ((t285.length : Int) != (t282.length : Int))) else (laws_FnStageOfCount.j0 k t282 t285 true))))))
def laws_FnStageOfCount.T10 : Bool × List (List Nat × List Nat) := (true, [([], []), ([], []), ([0, 1], [0, 1]), ([2], [2]), ([3], [3]), ([4], [4]), ([5], [5]), ([5], [5]), ([6, 7, 5], [5, 6, 7]), ([8, 5], [5, 8]), ([5], [5]), ([10, 5], [5, 10]), ([9, 11, 5], [5, 9, 11]), ([5, 12], [5, 12]), ([13, 5], [13]), ([14], [14]), ([14], [14]), ([15, 16, 14], [14, 15, 16]), ([17, 14], [14, 17]), ([14], [14]), ([14], [14]), ([19, 20, 14, 14], [14, 19, 20]), ([21, 14], [14, 21]), ([18, 22, 14], [14, 18, 22]), ([14, 23], [14, 23])])
def laws_FnStageOfCount.B10 : List Nat := [0, 0, 3, 7, 15, 31, 63, 63, 255, 511, 63, 1087, 4095, 8191, 16383, 32767, 32767, 131071, 262143, 32767, 32767, 1605631, 3702783, 8388607, 16777215]
theorem laws_FnStageOfCount.tab10 : rtab .any (opsOf Tryd.f4 10) = laws_FnStageOfCount.T10 := by kernel_rfl
theorem laws_FnStageOfCount.bits10 : waitsOk laws_FnStageOfCount.T10.2 laws_FnStageOfCount.B10 = true := by kernel_rfl
set_option maxHeartbeats 8000000 in
set_option maxRecDepth 100000 in
theorem laws_FnStageOfCount.calls (k : Nat) (A0 : Option Addr) (c0 : Nat) (l0 : List Int) (r : Bool) (w : World) (hr0 : Kd.C (Kd.int .u8) w A0 l0.length l0) (hc0 : l0.length ≤ c0) (h : laws_FnStageOfCount.f k l0 = some r) (hT_ : Tab w) :
  Calls Tryd.prog 4 #[.slice A0 l0.length c0] w fun e w' => e = .returned (.bool r) ∧ Below w.heap.size w w' := by
 have HTAB_ := Aside0.mk hT_
 clear hT_
 have HR0 := Aside0.mk hr0
 have HC0 := Aside0.mk hc0
 clear hr0 hc0
 have HB := Aside0.mk (Below.refl w.heap.size w)
 have H : (if (l0.length : Int) > 1048576 then (some true) else ((spec_DrawStageOf.f l0).bind fun t282 => ((impl_StageOf.f t282).bind fun t285 => ((spec_StageOf.f k t282).bind fun t288 => ((laws_equalInts.f k t285 t288).bind fun t291 => (if t291 = true then (laws_FnStageOfCount.j0 k t282 t285 ((t285.length : Int) != (t282.length : Int))) else (laws_FnStageOfCount.j0 k t282 t285 true))))))) = some r := h
 clear h
 by_cases c2 : (l0.length : Int) > 1048576
 ·rw [if_pos c2] at H
  have c2b0 : decide (1048576 < (l0.length : Int)) = true := decide_eq_true c2
  have c2b1 : decide (1048576 < l0.length) = true := decide_eq_true (by omega)
  clear c2
  obtain rfl := Option.some.inj H
  go_enter Tryd.func4, Tryd.ntmps4
  go_wp2
  go_ret
  exact ⟨by first | rfl | (simp [errW_none, errW_some] <;> rfl) | (simp [*, errW_none, errW_some] <;> rfl), blw_⟩
 ·rw [if_neg c2] at H
  have c2b0 : decide (1048576 < (l0.length : Int)) = false := decide_eq_false c2
  have c2b1 : decide (1048576 < l0.length) = false := decide_eq_false (by omega)
  clear c2
  replace H := Option.bind_eq_some_iff.mp H
  obtain ⟨t282, A30, H⟩ := H
  replace H : ((impl_StageOf.f t282).bind fun t285 => ((spec_StageOf.f k t282).bind fun t288 => ((laws_equalInts.f k t285 t288).bind fun t291 => (if t291 = true then (laws_FnStageOfCount.j0 k t282 t285 ((t285.length : Int) != (t282.length : Int))) else (laws_FnStageOfCount.j0 k t282 t285 true))))) = some r := H
  have A3 := Aside0.mk A30
  clear A30
  replace H := Option.bind_eq_some_iff.mp H
  obtain ⟨t285, A40, H⟩ := H
  replace H : ((spec_StageOf.f k t282).bind fun t288 => ((laws_equalInts.f k t285 t288).bind fun t291 => (if t291 = true then (laws_FnStageOfCount.j0 k t282 t285 ((t285.length : Int) != (t282.length : Int))) else (laws_FnStageOfCount.j0 k t282 t285 true)))) = some r := H
  have A4 := Aside0.mk A40
  clear A40
  have HC5 := Aside0.mk H
  clear H
  go_enter Tryd.func4, Tryd.ntmps4
  go_upto_region 5 with (first | ((with_reducible refine gate_callee (f := 9) rfl ?_); refine goesC_ (some 10) Tryd.func9 #[.slice A0 l0.length c0] ?_; (with_reducible refine (spec_DrawStageOf.calls _ _ l0 t282 _ ?side1 ?side2 A3.out).mono ?_); (case side1 => exact cw_ HR0.out); (case side2 => exact HC0.out); rintro e w6 ⟨v283, rfl, ho0, hb⟩; refine ⟨_, rfl, ?_⟩; have n0_ := Aside0.mk (Kd.V_lower (Kd.V_mono (ok' := fun k_ => True) ho0 (fun k_ hk_ => trivial)) (below_size blw_)); have n1_ := Aside0.mk (below_step blw_ hb); clear HB; have HO284 := n0_; have HB := n1_; clear n0_ n1_; (try clear hb); (try clear hb2); (try clear hk); (try clear hi); (try clear ho0); obtain ⟨Ao7, co7, eo7⟩ := Kd.V_slice HO284.out; subst eo7) | ((with_reducible refine gate_callee (f := 10) rfl ?_); refine goesC_ (some 12) Tryd.func10 #[.slice Ao7 t282.length co7] ?_; (with_reducible refine (impl_StageOf.calls _ _ t282 t285 _ ?side1 ?side2 A4.out ?sideT).mono ?_); (case sideT => first | exact HTAB_.out.below blw_ HTAB_.out.pos | exact HTAB_.out); (case side1 => exact cw_ (Kd.V_reads' HO284.out).2.2); (case side2 => exact (Kd.V_reads' HO284.out).2.1); rintro e w8 ⟨v286, rfl, ho0, hb⟩; refine ⟨_, rfl, ?_⟩; have n0_ := Aside0.mk (Kd.V_elder' (by (with_reducible repeat (first | apply Kd.V_alloc | apply Kd.V_drewN | apply Kd.V_drew)); exact HO284.out) (Kd.R_base ho0) hb); have n1_ := Aside0.mk (Kd.R_lower ho0 (below_size blw_)); have n2_ := Aside0.mk (below_step blw_ hb); clear HO284; clear HB; have HO284 := n0_; have HO287 := n1_; have HB := n2_; clear n0_ n1_ n2_; (try clear hb); (try clear hb2); (try clear hk); (try clear hi); (try clear ho0)))
  (try simp only [Act.put, List.setIfInBounds_toArray, List.set_cons_zero, List.set_cons_succ])
  go_cut [24] (fun v24 wc => ∃ (kq : Nat) (x24_4 : Bool), v24 = .bool x24_4 ∧ Aside0 (laws_FnStageOfCount.j0 kq t282 t285 x24_4 = some r) ∧ Aside0 (kq ≤ k) ∧ Aside0 (Kd.V k29 29 wc w.heap.size (fun k_ => some k_ ≠ (v286 : Value).ownBlock) (.slice Ao7 t282.length co7) t282) ∧ Aside0 (Kd.R (Kd.int .i64) 3 wc w.heap.size (fun _ => True) v286 t285) ∧ Aside0 (Below w.heap.size w wc))
  case first =>
   have H := HC5.out
   clear HC5
   replace H := Option.bind_eq_some_iff.mp H
   obtain ⟨t288, A90, H⟩ := H
   replace H : ((laws_equalInts.f k t285 t288).bind fun t291 => (if t291 = true then (laws_FnStageOfCount.j0 k t282 t285 ((t285.length : Int) != (t282.length : Int))) else (laws_FnStageOfCount.j0 k t282 t285 true))) = some r := H
   have A9 := Aside0.mk A90
   clear A90
   replace H := Option.bind_eq_some_iff.mp H
   obtain ⟨t291, A100, H⟩ := H
   replace H : (if t291 = true then (laws_FnStageOfCount.j0 k t282 t285 ((t285.length : Int) != (t282.length : Int))) else (laws_FnStageOfCount.j0 k t282 t285 true)) = some r := H
   have A10 := Aside0.mk A100
   clear A100
   by_cases c11 : t291 = true
   ·subst c11
    have H1 : (laws_FnStageOfCount.j0 k t282 t285 ((t285.length : Int) != (t282.length : Int))) = some r := by rw [if_pos rfl] at H; exact H
    clear H
    have H := H1
    clear H1
    have H' := Aside0.mk H
    clear H
    go_wp2_with (first | ((with_reducible refine gate_callee (f := 12) rfl ?_); refine goesC_ (some 15) Tryd.func12 #[.slice Ao7 t282.length co7] ?_; (with_reducible refine (spec_StageOf.calls k _ _ t282 t288 _ ?side1 ?side2 A9.out).mono ?_); (case side1 => exact cw_ (Kd.V_reads' HO284.out).2.2); (case side2 => exact (Kd.V_reads' HO284.out).2.1); rintro e w12 ⟨v289, rfl, ho0, hb⟩; refine ⟨_, rfl, ?_⟩; have n0_ := Aside0.mk (Kd.V_elder' (by (with_reducible repeat (first | apply Kd.V_alloc | apply Kd.V_drewN | apply Kd.V_drew)); exact HO284.out) (Kd.R_base ho0) hb); have n1_ := Aside0.mk (Kd.R_elder' (by (with_reducible repeat (first | apply Kd.R_alloc | apply Kd.R_drewN | apply Kd.R_drew)); exact HO287.out) (Kd.R_base ho0) hb); have n2_ := Aside0.mk (Kd.R_lower (Kd.R_new' ho0 (Kd.R_lt (by (with_reducible repeat (first | apply Kd.R_alloc | apply Kd.R_drewN | apply Kd.R_drew)); exact HO287.out))) (below_size blw_)); have n3_ := Aside0.mk (below_step blw_ hb); clear HO284; clear HO287; clear HB; have HO284 := n0_; have HO287 := n1_; have HO290 := n2_; have HB := n3_; clear n0_ n1_ n2_ n3_; (try clear hb); (try clear hb2); (try clear hk); (try clear hi); (try clear ho0); obtain ⟨Ao13, co13, eo13⟩ := Kd.R_slice HO287.out; subst eo13; obtain ⟨Ao14, co14, eo14⟩ := Kd.R_slice HO290.out; subst eo14) | ((with_reducible refine gate_callee (f := 11) rfl ?_); refine goesC_ (some 16) Tryd.func11 #[.slice Ao13 t285.length co13, .slice Ao14 t288.length co14] ?_; (with_reducible refine (laws_equalInts.calls k _ _ t285 _ _ t288 true _ ?side1 ?side2 ?side3 ?side4 A10.out).mono ?_); (case side1 => exact cw_ (Kd.R_reads' HO287.out).2.2); (case side2 => exact (Kd.R_reads' HO287.out).2.1); (case side3 => exact cw_ (Kd.R_reads' HO290.out).2.2); (case side4 => exact (Kd.R_reads' HO290.out).2.1); rintro e w' ⟨rfl, ⟨nd, rfl⟩⟩; refine ⟨_, rfl, ?_⟩))
    go_meet
    case rel => exact ⟨_, (((t285.length : Int) != (t282.length : Int))), (by first | rfl | (simp; done) | (simp [*]; done)), H', ⟨by first | omega | exact Nat.le_refl _⟩, ⟨by (with_reducible repeat (first | apply Kd.V_alloc | apply Kd.V_drewN | apply Kd.V_drew)); exact Kd.V_mono HO284.out (fun _ hk => hk.1.2)⟩, ⟨by (with_reducible repeat (first | apply Kd.R_alloc | apply Kd.R_drewN | apply Kd.R_drew)); exact Kd.R_mono HO287.out (fun _ hk => trivial)⟩, ⟨blw_⟩⟩
   ·replace c11 := Bool.eq_false_iff.mpr c11
    subst c11
    have H1 : (laws_FnStageOfCount.j0 k t282 t285 true) = some r := by rw [if_neg (show ¬ (false = true) by decide)] at H; exact H
    clear H
    have H := H1
    clear H1
    have H' := Aside0.mk H
    clear H
    go_wp2_with (first | ((with_reducible refine gate_callee (f := 12) rfl ?_); refine goesC_ (some 15) Tryd.func12 #[.slice Ao7 t282.length co7] ?_; (with_reducible refine (spec_StageOf.calls k _ _ t282 t288 _ ?side1 ?side2 A9.out).mono ?_); (case side1 => exact cw_ (Kd.V_reads' HO284.out).2.2); (case side2 => exact (Kd.V_reads' HO284.out).2.1); rintro e w15 ⟨v289, rfl, ho0, hb⟩; refine ⟨_, rfl, ?_⟩; have n0_ := Aside0.mk (Kd.V_elder' (by (with_reducible repeat (first | apply Kd.V_alloc | apply Kd.V_drewN | apply Kd.V_drew)); exact HO284.out) (Kd.R_base ho0) hb); have n1_ := Aside0.mk (Kd.R_elder' (by (with_reducible repeat (first | apply Kd.R_alloc | apply Kd.R_drewN | apply Kd.R_drew)); exact HO287.out) (Kd.R_base ho0) hb); have n2_ := Aside0.mk (Kd.R_lower (Kd.R_new' ho0 (Kd.R_lt (by (with_reducible repeat (first | apply Kd.R_alloc | apply Kd.R_drewN | apply Kd.R_drew)); exact HO287.out))) (below_size blw_)); have n3_ := Aside0.mk (below_step blw_ hb); clear HO284; clear HO287; clear HB; have HO284 := n0_; have HO287 := n1_; have HO290 := n2_; have HB := n3_; clear n0_ n1_ n2_ n3_; (try clear hb); (try clear hb2); (try clear hk); (try clear hi); (try clear ho0); obtain ⟨Ao16, co16, eo16⟩ := Kd.R_slice HO287.out; subst eo16; obtain ⟨Ao17, co17, eo17⟩ := Kd.R_slice HO290.out; subst eo17) | ((with_reducible refine gate_callee (f := 11) rfl ?_); refine goesC_ (some 16) Tryd.func11 #[.slice Ao16 t285.length co16, .slice Ao17 t288.length co17] ?_; (with_reducible refine (laws_equalInts.calls k _ _ t285 _ _ t288 false _ ?side1 ?side2 ?side3 ?side4 A10.out).mono ?_); (case side1 => exact cw_ (Kd.R_reads' HO287.out).2.2); (case side2 => exact (Kd.R_reads' HO287.out).2.1); (case side3 => exact cw_ (Kd.R_reads' HO290.out).2.2); (case side4 => exact (Kd.R_reads' HO290.out).2.1); rintro e w' ⟨rfl, ⟨nd, rfl⟩⟩; refine ⟨_, rfl, ?_⟩))
    go_meet
    case rel => exact ⟨_, (true), (by first | rfl | (simp; done) | (simp [*]; done)), H', ⟨by first | omega | exact Nat.le_refl _⟩, ⟨by (with_reducible repeat (first | apply Kd.V_alloc | apply Kd.V_drewN | apply Kd.V_drew)); exact Kd.V_mono HO284.out (fun _ hk => hk.1.2)⟩, ⟨by (with_reducible repeat (first | apply Kd.R_alloc | apply Kd.R_drewN | apply Kd.R_drew)); exact Kd.R_mono HO287.out (fun _ hk => trivial)⟩, ⟨blw_⟩⟩
  case rest =>
   clear HC5
   try clear c1
   try clear c2
   try clear c2b0
   try clear c2b1
   try clear p2
   try clear c4
   try clear c9
   try clear c10
   try clear c11
   try clear c12
   obtain ⟨kq, x24_4, rfl, HA, HJ4, HO_3, HO_4, HB⟩ := hcut
   cases kq with
   | zero => exact absurd HA.out (by simp [laws_FnStageOfCount.j0])
   | succ kj4 =>
    have H := HA.out
    clear HA
    simp only [laws_FnStageOfCount.j0] at H
    by_cases c18 : x24_4 = true
    ·subst c18
     have H1 : ((spec_StageOf.f kj4 t282).bind fun t292 => ((laws_equalInts.f kj4 t285 t292).bind fun t295 => (some t295))) = some r := by rw [if_pos rfl] at H; exact H
     clear H
     have H := H1
     clear H1
     replace H := Option.bind_eq_some_iff.mp H
     obtain ⟨t292, A190, H⟩ := H
     replace H : ((laws_equalInts.f kj4 t285 t292).bind fun t295 => (some t295)) = some r := H
     have A19 := Aside0.mk A190
     clear A190
     replace H := Option.bind_eq_some_iff.mp H
     obtain ⟨t295, A200, H⟩ := H
     replace H : (some t295) = some r := H
     have A20 := Aside0.mk A200
     clear A200
     obtain rfl := Option.some.inj H
     go_wp2_with (first | ((with_reducible refine gate_callee (f := 12) rfl ?_); refine goesC_ (some 27) Tryd.func12 #[.slice Ao7 t282.length co7] ?_; (with_reducible refine (spec_StageOf.calls kj4 _ _ t282 t292 _ ?side1 ?side2 A19.out).mono ?_); (case side1 => exact cw_ (Kd.V_reads' HO_3.out).2.2); (case side2 => exact (Kd.V_reads' HO_3.out).2.1); rintro e w21 ⟨v293, rfl, ho0, hb⟩; refine ⟨_, rfl, ?_⟩; have n0_ := Aside0.mk (Kd.V_elder' (by (with_reducible repeat (first | apply Kd.V_alloc | apply Kd.V_drewN | apply Kd.V_drew)); exact HO_3.out) (Kd.R_base ho0) hb); have n1_ := Aside0.mk (Kd.R_elder' (by (with_reducible repeat (first | apply Kd.R_alloc | apply Kd.R_drewN | apply Kd.R_drew)); exact HO_4.out) (Kd.R_base ho0) hb); have n2_ := Aside0.mk (Kd.R_lower (Kd.R_new' ho0 (Kd.R_lt (by (with_reducible repeat (first | apply Kd.R_alloc | apply Kd.R_drewN | apply Kd.R_drew)); exact HO_4.out))) (below_size blw_)); have n3_ := Aside0.mk (below_step blw_ hb); clear HO_3; clear HO_4; clear HB; have HO_3 := n0_; have HO_4 := n1_; have HO294 := n2_; have HB := n3_; clear n0_ n1_ n2_ n3_; (try clear hb); (try clear hb2); (try clear hk); (try clear hi); (try clear ho0); obtain ⟨Ao22, co22, eo22⟩ := Kd.R_slice HO_4.out; subst eo22; obtain ⟨Ao23, co23, eo23⟩ := Kd.R_slice HO294.out; subst eo23) | ((with_reducible refine gate_callee (f := 11) rfl ?_); refine goesC_ (some 28) Tryd.func11 #[.slice Ao22 t285.length co22, .slice Ao23 t292.length co23] ?_; (with_reducible refine (laws_equalInts.calls kj4 _ _ t285 _ _ t292 t295 _ ?side1 ?side2 ?side3 ?side4 A20.out).mono ?_); (case side1 => exact cw_ (Kd.R_reads' HO_4.out).2.2); (case side2 => exact (Kd.R_reads' HO_4.out).2.1); (case side3 => exact cw_ (Kd.R_reads' HO294.out).2.2); (case side4 => exact (Kd.R_reads' HO294.out).2.1); rintro e w' ⟨rfl, ⟨nd, rfl⟩⟩; refine ⟨_, rfl, ?_⟩))
     go_ret
     exact ⟨by first | rfl | (simp [errW_none, errW_some] <;> rfl) | (simp [*, errW_none, errW_some] <;> rfl), blw_⟩
    ·replace c18 := Bool.eq_false_iff.mpr c18
     subst c18
     have H1 : (laws_FnStageOfCount.l0 kj4 t282 t285 0) = some r := by rw [if_neg (show ¬ (false = true) by decide)] at H; exact H
     clear H
     have H := H1
     clear H1
     have H' := Aside0.mk H
     clear H
     go_wp2
     go_loopg [5] kj4 (fun kq v5 w' => ∃ (x5_2 : Int), v5 = .int .i64 x5_2 ∧ Aside0 (laws_FnStageOfCount.l0 kq t282 t285 x5_2 = some r) ∧ Aside0 (kq ≤ kj4) ∧ Aside0 (Kd.V k29 29 w' w.heap.size (fun k_ => some k_ ≠ (v286 : Value).ownBlock) (.slice Ao7 t282.length co7) t282) ∧ Aside0 (Kd.R (Kd.int .i64) 3 w' w.heap.size (fun _ => True) v286 t285) ∧ Aside0 (Below w.heap.size w w'))
     case atStart => exact ⟨(0), (by first | rfl | (simp; done) | (simp [*]; done)), H', ⟨Nat.le_refl _⟩, ⟨by (with_reducible repeat (first | apply Kd.V_alloc | apply Kd.V_drewN | apply Kd.V_drew)); exact HO_3.out⟩, ⟨rw_ HO_4.out⟩, ⟨blw_⟩⟩
     case round =>
      clear H'
      try clear c1
      try clear c2
      try clear c2b0
      try clear c2b1
      try clear p2
      try clear c4
      try clear c9
      try clear c10
      try clear c11
      try clear c12
      try clear c18
      try clear p2
      obtain ⟨x5_2, rfl, HA, HK2, HO_3, HO_4, HB⟩ := hrel
      cases gk with
      | zero => exact absurd HA.out (by simp [laws_FnStageOfCount.l0])
      | succ k2 =>
       have H := HA.out
       clear HA
       simp only [laws_FnStageOfCount.l0] at H
       by_cases c24 : x5_2 < (t282.length : Int)
       ·rw [if_pos c24] at H
        have c24b0 : decide (x5_2 < (t282.length : Int)) = true := decide_eq_true c24
        clear c24
        by_cases c25 : 0 ≤ x5_2
        ·rw [if_pos c25] at H
         have c25b0 : decide (0 ≤ x5_2) = true := decide_eq_true c25
         clear c25
         by_cases c26 : x5_2 < (t285.length : Int)
         ·rw [if_pos c26] at H
          have c26b0 : decide (x5_2 < (t285.length : Int)) = true := decide_eq_true c26
          clear c26
          by_cases c27 : (rd t285 x5_2) < 0
          ·rw [if_pos c27] at H
           have c27b0 : decide ((rd t285 x5_2) < 0) = true := decide_eq_true c27
           clear c27
           obtain rfl := Option.some.inj H
           try go_wp2
           have n0_ := Aside0.mk (Kd.V_drew HO_3.out)
           have n1_ := Aside0.mk (Kd.R_drew HO_4.out)
           have n2_ := Aside0.mk (below_drew1 HB.out)
           clear HO_3
           clear HO_4
           clear HB
           have HO_3 := n0_
           have HO_4 := n1_
           have HB := n2_
           clear n0_ n1_ n2_
           obtain ⟨Ao29, co29, eo29⟩ := Kd.R_slice HO_4.out
           (first | subst eo29 | (injection eo29 with f1_ f2_ f3_; have f4_ := f1_.symm; have f5_ := f3_.symm; clear f1_ f2_ f3_; subst f4_; subst f5_))
           have p296 : 0 ≤ (x5_2 : Int) := of_decide_eq_true (by first | (with_reducible assumption) | assumption)
           have q296 : x5_2 < (t285.length : Int) := of_decide_eq_true (by first | (with_reducible assumption) | assumption)
           obtain ⟨ad296, e296, hx296_0⟩ := Kd.at_int (Kd.R_reads' HO_4.out).2.2 x5_2 p296 q296
           cases e296
           replace p296 := eq_true p296
           replace q296 := eq_true q296
           refine start_ (n := 25) (S := fun w' => w'.cell? (ad296.add (x5_2).toNat) = some (.int .i64 (rd t285 x5_2))) (ds := []) (bs 25 0) (by kernel_rfl) rfl (by kernel_rfl) (hx296_0) (fun hHeld => ?_); refine with_tabW laws_FnStageOfCount.tab10 laws_FnStageOfCount.bits10 (fun HT_ HW_ => ?_)
           generalize wr.drew = w28 at HO_3 HO_4 HB hx296_0 hHeld ⊢
           refine pT_ HT_.out 0 35 (bs 25 1) ?_
           refine pT_ HT_.out 1 36 (bs 25 3) ?_
           refine pT_ HT_.out 2 37 (bs 25 7) ?_
           refine take_ (i := 3) (N := some 38) (v := ?_) (a' := ?_) (bs 25 15) rfl rfl (take_ofW HT_.out HW_.out (by kernel_rfl)) (fun _ _ _ h => h) (Or.inl ⟨by rfl, ?_⟩) hHeld ?_ ?_
           rotate_left
           ·intro w' s0
            go_simp
            with_reducible rfl
           rotate_left
           ·simp only [Act.put, List.setIfInBounds_toArray, List.set_cons_zero, List.set_cons_succ, i64_w, i32_w]
            rfl
           refine pT_ HT_.out 4 39 (bs 25 31) ?_
           refine pT_ HT_.out 5 40 (bs 25 63) ?_
           refine pU_ HT_.out 6 41 (bs 25 127) ?_
           refine pU_ HT_.out 7 42 (bs 25 255) ?_
           refine pU_ HT_.out 8 43 (bs 25 511) ?_
           refine pU_ HT_.out 9 44 (bs 25 1023) ?_
           refine pU_ HT_.out 10 45 (bs 25 2047) ?_
           refine pU_ HT_.out 11 46 (bs 25 4095) ?_
           refine pU_ HT_.out 12 47 (bs 25 8191) ?_
           refine pT_ HT_.out 13 48 (bs 25 16383) ?_
           refine pT_ HT_.out 14 49 (bs 25 32767) ?_
           refine pU_ HT_.out 15 50 (bs 25 65535) ?_
           refine pU_ HT_.out 16 51 (bs 25 131071) ?_
           refine pU_ HT_.out 17 52 (bs 25 262143) ?_
           refine pU_ HT_.out 18 53 (bs 25 524287) ?_
           refine pU_ HT_.out 19 54 (bs 25 1048575) ?_
           refine pU_ HT_.out 20 55 (bs 25 2097151) ?_
           refine pU_ HT_.out 21 56 (bs 25 4194303) ?_
           refine pU_ HT_.out 22 57 (bs 25 8388607) ?_
           refine pU_ HT_.out 23 58 (bs 25 16777215) ?_
           refine pT_ HT_.out 24 59 (bs 25 33554431) ?_
           refine done_ (done_of HT_.out (by kernel_rfl)) ?_
           try go_wp2
           go_ret
           exact ⟨by first | rfl | (simp [errW_none, errW_some] <;> rfl) | (simp [*, errW_none, errW_some] <;> rfl), blw_⟩
          ·rw [if_neg c27] at H
           have c27b0 : decide ((rd t285 x5_2) < 0) = false := decide_eq_false c27
           clear c27
           by_cases c30 : (rd t285 x5_2) ≥ (t282.length : Int)
           ·rw [if_pos c30] at H
            have c30b0 : decide ((t282.length : Int) ≤ (rd t285 x5_2)) = true := decide_eq_true c30
            clear c30
            obtain rfl := Option.some.inj H
            try go_wp2
            have n0_ := Aside0.mk (Kd.V_drew HO_3.out)
            have n1_ := Aside0.mk (Kd.R_drew HO_4.out)
            have n2_ := Aside0.mk (below_drew1 HB.out)
            clear HO_3
            clear HO_4
            clear HB
            have HO_3 := n0_
            have HO_4 := n1_
            have HB := n2_
            clear n0_ n1_ n2_
            obtain ⟨Ao32, co32, eo32⟩ := Kd.R_slice HO_4.out
            (first | subst eo32 | (injection eo32 with f1_ f2_ f3_; have f4_ := f1_.symm; have f5_ := f3_.symm; clear f1_ f2_ f3_; subst f4_; subst f5_))
            have p296 : 0 ≤ (x5_2 : Int) := of_decide_eq_true (by first | (with_reducible assumption) | assumption)
            have q296 : x5_2 < (t285.length : Int) := of_decide_eq_true (by first | (with_reducible assumption) | assumption)
            obtain ⟨ad296, e296, hx296_0⟩ := Kd.at_int (Kd.R_reads' HO_4.out).2.2 x5_2 p296 q296
            cases e296
            replace p296 := eq_true p296
            replace q296 := eq_true q296
            have p297 : 0 ≤ (x5_2 : Int) := of_decide_eq_true (by first | (with_reducible assumption) | assumption)
            have q297 : x5_2 < (t285.length : Int) := of_decide_eq_true (by first | (with_reducible assumption) | assumption)
            obtain ⟨ad297, e297, hx297_0⟩ := Kd.at_int (Kd.R_reads' HO_4.out).2.2 x5_2 p297 q297
            obtain rfl : ad296 = ad297 := (by injection e297)
            replace p297 := eq_true p297
            replace q297 := eq_true q297
            refine start_ (n := 25) (S := fun w' => w'.cell? (ad296.add (x5_2).toNat) = some (.int .i64 (rd t285 x5_2)) ∧ w'.cell? (ad296.add (x5_2).toNat) = some (.int .i64 (rd t285 x5_2))) (ds := []) (bs 25 0) (by kernel_rfl) rfl (by kernel_rfl) ⟨hx296_0, hx297_0⟩ (fun hHeld => ?_); refine with_tabW laws_FnStageOfCount.tab10 laws_FnStageOfCount.bits10 (fun HT_ HW_ => ?_)
            generalize wr.drew = w31 at HO_3 HO_4 HB hx296_0 hx297_0 hHeld ⊢
            refine pT_ HT_.out 0 35 (bs 25 1) ?_
            refine pT_ HT_.out 1 36 (bs 25 3) ?_
            refine pT_ HT_.out 2 37 (bs 25 7) ?_
            refine take_ (i := 3) (N := some 38) (v := ?_) (a' := ?_) (bs 25 15) rfl rfl (take_ofW HT_.out HW_.out (by kernel_rfl)) (fun _ _ _ h => h) (Or.inl ⟨by rfl, ?_⟩) hHeld ?_ ?_
            rotate_left
            ·rintro w' ⟨s0, s1⟩
             go_simp
             with_reducible rfl
            rotate_left
            ·simp only [Act.put, List.setIfInBounds_toArray, List.set_cons_zero, List.set_cons_succ, i64_w, i32_w]
             rfl
            refine pT_ HT_.out 4 39 (bs 25 31) ?_
            refine pT_ HT_.out 5 40 (bs 25 63) ?_
            refine pT_ HT_.out 6 41 (bs 25 127) ?_
            refine pT_ HT_.out 7 42 (bs 25 255) ?_
            refine pT_ HT_.out 8 43 (bs 25 511) ?_
            refine pT_ HT_.out 10 45 (bs 25 1535) ?_
            refine pT_ HT_.out 11 46 (bs 25 3583) ?_
            refine take_ (i := 9) (N := some 44) (v := ?_) (a' := ?_) (bs 25 4095) rfl rfl (take_ofW HT_.out HW_.out (by kernel_rfl)) (fun _ _ _ h => h) (Or.inl ⟨by rfl, ?_⟩) hHeld ?_ ?_
            rotate_left
            ·rintro w' ⟨s0, s1⟩
             go_simp
             with_reducible rfl
            rotate_left
            ·simp only [Act.put, List.setIfInBounds_toArray, List.set_cons_zero, List.set_cons_succ, i64_w, i32_w]
             rfl
            refine pT_ HT_.out 12 47 (bs 25 8191) ?_
            refine pT_ HT_.out 13 48 (bs 25 16383) ?_
            refine pT_ HT_.out 14 49 (bs 25 32767) ?_
            refine pU_ HT_.out 15 50 (bs 25 65535) ?_
            refine pU_ HT_.out 16 51 (bs 25 131071) ?_
            refine pU_ HT_.out 17 52 (bs 25 262143) ?_
            refine pU_ HT_.out 18 53 (bs 25 524287) ?_
            refine pU_ HT_.out 19 54 (bs 25 1048575) ?_
            refine pU_ HT_.out 20 55 (bs 25 2097151) ?_
            refine pU_ HT_.out 21 56 (bs 25 4194303) ?_
            refine pU_ HT_.out 22 57 (bs 25 8388607) ?_
            refine pU_ HT_.out 23 58 (bs 25 16777215) ?_
            refine pT_ HT_.out 24 59 (bs 25 33554431) ?_
            refine done_ (done_of HT_.out (by kernel_rfl)) ?_
            try go_wp2
            go_ret
            exact ⟨by first | rfl | (simp [errW_none, errW_some] <;> rfl) | (simp [*, errW_none, errW_some] <;> rfl), blw_⟩
           ·rw [if_neg c30] at H
            have c30b0 : decide ((t282.length : Int) ≤ (rd t285 x5_2)) = false := decide_eq_false c30
            clear c30
            replace H := Option.bind_eq_some_iff.mp H
            obtain ⟨t299, A330, H⟩ := H
            replace H : (if (rd t285 x5_2) > (t299.length : Int) then (some false) else (laws_FnStageOfCount.l0 k2 t282 t285 (wrap64 (x5_2 + 1)))) = some r := H
            have A33 := Aside0.mk A330
            clear A330
            by_cases c34 : (rd t285 x5_2) > (t299.length : Int)
            ·rw [if_pos c34] at H
             have c34b0 : decide ((t299.length : Int) < (rd t285 x5_2)) = true := decide_eq_true c34
             clear c34
             obtain rfl := Option.some.inj H
             try go_wp2
             have n0_ := Aside0.mk (Kd.V_drew HO_3.out)
             have n1_ := Aside0.mk (Kd.R_drew HO_4.out)
             have n2_ := Aside0.mk (below_drew1 HB.out)
             clear HO_3
             clear HO_4
             clear HB
             have HO_3 := n0_
             have HO_4 := n1_
             have HB := n2_
             clear n0_ n1_ n2_
             obtain ⟨Ao36, co36, eo36⟩ := Kd.R_slice HO_4.out
             (first | subst eo36 | (injection eo36 with f1_ f2_ f3_; have f4_ := f1_.symm; have f5_ := f3_.symm; clear f1_ f2_ f3_; subst f4_; subst f5_))
             have p296 : 0 ≤ (x5_2 : Int) := of_decide_eq_true (by first | (with_reducible assumption) | assumption)
             have q296 : x5_2 < (t285.length : Int) := of_decide_eq_true (by first | (with_reducible assumption) | assumption)
             obtain ⟨ad296, e296, hx296_0⟩ := Kd.at_int (Kd.R_reads' HO_4.out).2.2 x5_2 p296 q296
             cases e296
             replace p296 := eq_true p296
             replace q296 := eq_true q296
             have p297 : 0 ≤ (x5_2 : Int) := of_decide_eq_true (by first | (with_reducible assumption) | assumption)
             have q297 : x5_2 < (t285.length : Int) := of_decide_eq_true (by first | (with_reducible assumption) | assumption)
             obtain ⟨ad297, e297, hx297_0⟩ := Kd.at_int (Kd.R_reads' HO_4.out).2.2 x5_2 p297 q297
             obtain rfl : ad296 = ad297 := (by injection e297)
             replace p297 := eq_true p297
             replace q297 := eq_true q297
             have p298 : 0 ≤ (x5_2 : Int) := of_decide_eq_true (by first | (with_reducible assumption) | assumption)
             have q298 : x5_2 < (t285.length : Int) := of_decide_eq_true (by first | (with_reducible assumption) | assumption)
             obtain ⟨ad298, e298, hx298_0⟩ := Kd.at_int (Kd.R_reads' HO_4.out).2.2 x5_2 p298 q298
             obtain rfl : ad296 = ad298 := (by injection e298)
             replace p298 := eq_true p298
             replace q298 := eq_true q298
             refine start_ (n := 25) (S := fun w' => w'.cell? (ad296.add (x5_2).toNat) = some (.int .i64 (rd t285 x5_2)) ∧ w'.cell? (ad296.add (x5_2).toNat) = some (.int .i64 (rd t285 x5_2)) ∧ w'.cell? (ad296.add (x5_2).toNat) = some (.int .i64 (rd t285 x5_2))) (ds := []) (bs 25 0) (by kernel_rfl) rfl (by kernel_rfl) ⟨hx296_0, hx297_0, hx298_0⟩ (fun hHeld => ?_); refine with_tabW laws_FnStageOfCount.tab10 laws_FnStageOfCount.bits10 (fun HT_ HW_ => ?_)
             generalize wr.drew = w35 at HO_3 HO_4 HB hx296_0 hx297_0 hx298_0 hHeld ⊢
             refine pT_ HT_.out 0 35 (bs 25 1) ?_
             refine pT_ HT_.out 1 36 (bs 25 3) ?_
             refine pT_ HT_.out 2 37 (bs 25 7) ?_
             refine take_ (i := 3) (N := some 38) (v := ?_) (a' := ?_) (bs 25 15) rfl rfl (take_ofW HT_.out HW_.out (by kernel_rfl)) (fun _ _ _ h => h) (Or.inl ⟨by rfl, ?_⟩) hHeld ?_ ?_
             rotate_left
             ·rintro w' ⟨s0, s1, s2⟩
              go_simp
              with_reducible rfl
             rotate_left
             ·simp only [Act.put, List.setIfInBounds_toArray, List.set_cons_zero, List.set_cons_succ, i64_w, i32_w]
              rfl
             refine pT_ HT_.out 4 39 (bs 25 31) ?_
             refine pT_ HT_.out 5 40 (bs 25 63) ?_
             refine pT_ HT_.out 6 41 (bs 25 127) ?_
             refine pT_ HT_.out 7 42 (bs 25 255) ?_
             refine pT_ HT_.out 8 43 (bs 25 511) ?_
             refine pT_ HT_.out 10 45 (bs 25 1535) ?_
             refine pT_ HT_.out 11 46 (bs 25 3583) ?_
             refine take_ (i := 9) (N := some 44) (v := ?_) (a' := ?_) (bs 25 4095) rfl rfl (take_ofW HT_.out HW_.out (by kernel_rfl)) (fun _ _ _ h => h) (Or.inl ⟨by rfl, ?_⟩) hHeld ?_ ?_
             rotate_left
             ·rintro w' ⟨s0, s1, s2⟩
              go_simp
              with_reducible rfl
             rotate_left
             ·simp only [Act.put, List.setIfInBounds_toArray, List.set_cons_zero, List.set_cons_succ, i64_w, i32_w]
              rfl
             refine pT_ HT_.out 12 47 (bs 25 8191) ?_
             refine pT_ HT_.out 13 48 (bs 25 16383) ?_
             refine pT_ HT_.out 14 49 (bs 25 32767) ?_
             refine pT_ HT_.out 15 50 (bs 25 65535) ?_
             refine pT_ HT_.out 16 51 (bs 25 131071) ?_
             refine pT_ HT_.out 17 52 (bs 25 262143) ?_
             refine pT_ HT_.out 19 54 (bs 25 786431) ?_
             refine pT_ HT_.out 20 55 (bs 25 1835007) ?_
             refine take_ (i := 18) (N := some 53) (v := ?_) (a' := ?_) (bs 25 2097151) rfl rfl (take_ofW HT_.out HW_.out (by kernel_rfl)) (fun _ _ _ h => h) (Or.inl ⟨by rfl, ?_⟩) hHeld ?_ ?_
             rotate_left
             ·rintro w' ⟨s0, s1, s2⟩
              go_simp
              with_reducible rfl
             rotate_left
             ·simp only [Act.put, List.setIfInBounds_toArray, List.set_cons_zero, List.set_cons_succ, i64_w, i32_w]
              rfl
             refine one_ (i := 21) (N := some 56) (bs 25 4194303) rfl rfl (one_of HT_.out (by kernel_rfl)) (by decide) (fun K hK => ?_)
             refine goes_ Tryd.func13 (by kernel_rfl) rfl #[.slice Ao7 t282.length co7, .int .i64 x5_2] (by rfl) rfl rfl (by (try simp only [List.map_toArray, List.map_cons, List.map_nil]); first | done | rfl | (simp only [List.length_drop, List.length_take]; rfl)) ?_
             with_reducible refine (impl_AllNeeds.calls _ _ t282 x5_2 t299 _ ?side1 ?side2 A33.out ?sideT).mono ?_
             (case sideT => first | exact HTAB_.out.below blw_ HTAB_.out.pos | exact HTAB_.out)
             (case side1 => exact cw_ (Kd.V_reads' HO_3.out).2.2)
             (case side2 => exact (Kd.V_reads' HO_3.out).2.1)
             rintro e w37 ⟨v300, rfl, ho0, hb⟩
             have HS0_ := (hb.cell (World.block_lt_of_cell? _ _ (hHeld.1))).trans (hHeld.1)
             have HS1_ := (hb.cell (World.block_lt_of_cell? _ _ (hHeld.2.1))).trans (hHeld.2.1)
             have HS2_ := (hb.cell (World.block_lt_of_cell? _ _ (hHeld.2.2))).trans (hHeld.2.2)
             refine ⟨_, rfl, ?_⟩
             have n0_ := Aside0.mk (Kd.V_elder' (by (with_reducible repeat (first | apply Kd.V_alloc | apply Kd.V_drewN | apply Kd.V_drew)); exact HO_3.out) (Kd.R_base ho0) hb)
             have n1_ := Aside0.mk (Kd.R_elder' (by (with_reducible repeat (first | apply Kd.R_alloc | apply Kd.R_drewN | apply Kd.R_drew)); exact HO_4.out) (Kd.R_base ho0) hb)
             have n2_ := Aside0.mk (Kd.R_lower (Kd.R_new' ho0 (Kd.R_lt (by (with_reducible repeat (first | apply Kd.R_alloc | apply Kd.R_drewN | apply Kd.R_drew)); exact HO_4.out))) (below_size blw_))
             have n3_ := Aside0.mk (below_step blw_ hb)
             clear HO_3
             clear HO_4
             clear HB
             have HO_3 := n0_
             have HO_4 := n1_
             have HO301 := n2_
             have HB := n3_
             clear n0_ n1_ n2_ n3_
             (try clear hb)
             (try clear hb2)
             (try clear hk)
             (try clear hi)
             (try clear ho0)
             obtain ⟨Ao38, co38, eo38⟩ := Kd.R_slice HO301.out
             (first | subst eo38 | (injection eo38 with f1_ f2_ f3_; have f4_ := f1_.symm; have f5_ := f3_.symm; clear f1_ f2_ f3_; subst f4_; subst f5_))
             refine hK.out _ _ ⟨HS0_, HS1_, HS2_⟩ (fun hHeld => ?_)
             clear hK K
             refine norm_ (a' := ?_) ?_ ?_
             rotate_left
             ·show Act.put _ (some 56) _ = _
              simp only [Act.put, List.setIfInBounds_toArray, List.set_cons_zero, List.set_cons_succ, i64_w, i32_w]
              rfl
             refine pT_ HT_.out 22 57 (bs 25 8388607) ?_
             refine pT_ HT_.out 23 58 (bs 25 16777215) ?_
             refine pT_ HT_.out 24 59 (bs 25 33554431) ?_
             refine done_ (done_of HT_.out (by kernel_rfl)) ?_
             try go_wp2
             go_ret
             exact ⟨by first | rfl | (simp [errW_none, errW_some] <;> rfl) | (simp [*, errW_none, errW_some] <;> rfl), blw_⟩
            ·rw [if_neg c34] at H
             have c34b0 : decide ((t299.length : Int) < (rd t285 x5_2)) = false := decide_eq_false c34
             clear c34
             have H' := Aside0.mk H
             clear H
             try go_wp2
             have n0_ := Aside0.mk (Kd.V_drew HO_3.out)
             have n1_ := Aside0.mk (Kd.R_drew HO_4.out)
             have n2_ := Aside0.mk (below_drew1 HB.out)
             clear HO_3
             clear HO_4
             clear HB
             have HO_3 := n0_
             have HO_4 := n1_
             have HB := n2_
             clear n0_ n1_ n2_
             obtain ⟨Ao40, co40, eo40⟩ := Kd.R_slice HO_4.out
             (first | subst eo40 | (injection eo40 with f1_ f2_ f3_; have f4_ := f1_.symm; have f5_ := f3_.symm; clear f1_ f2_ f3_; subst f4_; subst f5_))
             have p296 : 0 ≤ (x5_2 : Int) := of_decide_eq_true (by first | (with_reducible assumption) | assumption)
             have q296 : x5_2 < (t285.length : Int) := of_decide_eq_true (by first | (with_reducible assumption) | assumption)
             obtain ⟨ad296, e296, hx296_0⟩ := Kd.at_int (Kd.R_reads' HO_4.out).2.2 x5_2 p296 q296
             cases e296
             replace p296 := eq_true p296
             replace q296 := eq_true q296
             have p297 : 0 ≤ (x5_2 : Int) := of_decide_eq_true (by first | (with_reducible assumption) | assumption)
             have q297 : x5_2 < (t285.length : Int) := of_decide_eq_true (by first | (with_reducible assumption) | assumption)
             obtain ⟨ad297, e297, hx297_0⟩ := Kd.at_int (Kd.R_reads' HO_4.out).2.2 x5_2 p297 q297
             obtain rfl : ad296 = ad297 := (by injection e297)
             replace p297 := eq_true p297
             replace q297 := eq_true q297
             have p298 : 0 ≤ (x5_2 : Int) := of_decide_eq_true (by first | (with_reducible assumption) | assumption)
             have q298 : x5_2 < (t285.length : Int) := of_decide_eq_true (by first | (with_reducible assumption) | assumption)
             obtain ⟨ad298, e298, hx298_0⟩ := Kd.at_int (Kd.R_reads' HO_4.out).2.2 x5_2 p298 q298
             obtain rfl : ad296 = ad298 := (by injection e298)
             replace p298 := eq_true p298
             replace q298 := eq_true q298
             refine start_ (n := 25) (S := fun w' => w'.cell? (ad296.add (x5_2).toNat) = some (.int .i64 (rd t285 x5_2)) ∧ w'.cell? (ad296.add (x5_2).toNat) = some (.int .i64 (rd t285 x5_2)) ∧ w'.cell? (ad296.add (x5_2).toNat) = some (.int .i64 (rd t285 x5_2))) (ds := []) (bs 25 0) (by kernel_rfl) rfl (by kernel_rfl) ⟨hx296_0, hx297_0, hx298_0⟩ (fun hHeld => ?_); refine with_tabW laws_FnStageOfCount.tab10 laws_FnStageOfCount.bits10 (fun HT_ HW_ => ?_)
             generalize wr.drew = w39 at HO_3 HO_4 HB hx296_0 hx297_0 hx298_0 hHeld ⊢
             refine pT_ HT_.out 0 35 (bs 25 1) ?_
             refine pT_ HT_.out 1 36 (bs 25 3) ?_
             refine pT_ HT_.out 2 37 (bs 25 7) ?_
             refine take_ (i := 3) (N := some 38) (v := ?_) (a' := ?_) (bs 25 15) rfl rfl (take_ofW HT_.out HW_.out (by kernel_rfl)) (fun _ _ _ h => h) (Or.inl ⟨by rfl, ?_⟩) hHeld ?_ ?_
             rotate_left
             ·rintro w' ⟨s0, s1, s2⟩
              go_simp
              with_reducible rfl
             rotate_left
             ·simp only [Act.put, List.setIfInBounds_toArray, List.set_cons_zero, List.set_cons_succ, i64_w, i32_w]
              rfl
             refine pT_ HT_.out 4 39 (bs 25 31) ?_
             refine pT_ HT_.out 5 40 (bs 25 63) ?_
             refine pT_ HT_.out 6 41 (bs 25 127) ?_
             refine pT_ HT_.out 7 42 (bs 25 255) ?_
             refine pT_ HT_.out 8 43 (bs 25 511) ?_
             refine pT_ HT_.out 10 45 (bs 25 1535) ?_
             refine pT_ HT_.out 11 46 (bs 25 3583) ?_
             refine take_ (i := 9) (N := some 44) (v := ?_) (a' := ?_) (bs 25 4095) rfl rfl (take_ofW HT_.out HW_.out (by kernel_rfl)) (fun _ _ _ h => h) (Or.inl ⟨by rfl, ?_⟩) hHeld ?_ ?_
             rotate_left
             ·rintro w' ⟨s0, s1, s2⟩
              go_simp
              with_reducible rfl
             rotate_left
             ·simp only [Act.put, List.setIfInBounds_toArray, List.set_cons_zero, List.set_cons_succ, i64_w, i32_w]
              rfl
             refine pT_ HT_.out 12 47 (bs 25 8191) ?_
             refine pT_ HT_.out 13 48 (bs 25 16383) ?_
             refine pT_ HT_.out 14 49 (bs 25 32767) ?_
             refine pT_ HT_.out 15 50 (bs 25 65535) ?_
             refine pT_ HT_.out 16 51 (bs 25 131071) ?_
             refine pT_ HT_.out 17 52 (bs 25 262143) ?_
             refine pT_ HT_.out 19 54 (bs 25 786431) ?_
             refine pT_ HT_.out 20 55 (bs 25 1835007) ?_
             refine take_ (i := 18) (N := some 53) (v := ?_) (a' := ?_) (bs 25 2097151) rfl rfl (take_ofW HT_.out HW_.out (by kernel_rfl)) (fun _ _ _ h => h) (Or.inl ⟨by rfl, ?_⟩) hHeld ?_ ?_
             rotate_left
             ·rintro w' ⟨s0, s1, s2⟩
              go_simp
              with_reducible rfl
             rotate_left
             ·simp only [Act.put, List.setIfInBounds_toArray, List.set_cons_zero, List.set_cons_succ, i64_w, i32_w]
              rfl
             refine one_ (i := 21) (N := some 56) (bs 25 4194303) rfl rfl (one_of HT_.out (by kernel_rfl)) (by decide) (fun K hK => ?_)
             refine goes_ Tryd.func13 (by kernel_rfl) rfl #[.slice Ao7 t282.length co7, .int .i64 x5_2] (by rfl) rfl rfl (by (try simp only [List.map_toArray, List.map_cons, List.map_nil]); first | done | rfl | (simp only [List.length_drop, List.length_take]; rfl)) ?_
             with_reducible refine (impl_AllNeeds.calls _ _ t282 x5_2 t299 _ ?side1 ?side2 A33.out ?sideT).mono ?_
             (case sideT => first | exact HTAB_.out.below blw_ HTAB_.out.pos | exact HTAB_.out)
             (case side1 => exact cw_ (Kd.V_reads' HO_3.out).2.2)
             (case side2 => exact (Kd.V_reads' HO_3.out).2.1)
             rintro e w41 ⟨v300, rfl, ho0, hb⟩
             have HS0_ := (hb.cell (World.block_lt_of_cell? _ _ (hHeld.1))).trans (hHeld.1)
             have HS1_ := (hb.cell (World.block_lt_of_cell? _ _ (hHeld.2.1))).trans (hHeld.2.1)
             have HS2_ := (hb.cell (World.block_lt_of_cell? _ _ (hHeld.2.2))).trans (hHeld.2.2)
             refine ⟨_, rfl, ?_⟩
             have n0_ := Aside0.mk (Kd.V_elder' (by (with_reducible repeat (first | apply Kd.V_alloc | apply Kd.V_drewN | apply Kd.V_drew)); exact HO_3.out) (Kd.R_base ho0) hb)
             have n1_ := Aside0.mk (Kd.R_elder' (by (with_reducible repeat (first | apply Kd.R_alloc | apply Kd.R_drewN | apply Kd.R_drew)); exact HO_4.out) (Kd.R_base ho0) hb)
             have n2_ := Aside0.mk (Kd.R_lower (Kd.R_new' ho0 (Kd.R_lt (by (with_reducible repeat (first | apply Kd.R_alloc | apply Kd.R_drewN | apply Kd.R_drew)); exact HO_4.out))) (below_size blw_))
             have n3_ := Aside0.mk (below_step blw_ hb)
             clear HO_3
             clear HO_4
             clear HB
             have HO_3 := n0_
             have HO_4 := n1_
             have HO301 := n2_
             have HB := n3_
             clear n0_ n1_ n2_ n3_
             (try clear hb)
             (try clear hb2)
             (try clear hk)
             (try clear hi)
             (try clear ho0)
             obtain ⟨Ao42, co42, eo42⟩ := Kd.R_slice HO301.out
             (first | subst eo42 | (injection eo42 with f1_ f2_ f3_; have f4_ := f1_.symm; have f5_ := f3_.symm; clear f1_ f2_ f3_; subst f4_; subst f5_))
             refine hK.out _ _ ⟨HS0_, HS1_, HS2_⟩ (fun hHeld => ?_)
             clear hK K
             refine norm_ (a' := ?_) ?_ ?_
             rotate_left
             ·show Act.put _ (some 56) _ = _
              simp only [Act.put, List.setIfInBounds_toArray, List.set_cons_zero, List.set_cons_succ, i64_w, i32_w]
              rfl
             refine pT_ HT_.out 22 57 (bs 25 8388607) ?_
             refine pT_ HT_.out 23 58 (bs 25 16777215) ?_
             refine pT_ HT_.out 24 59 (bs 25 33554431) ?_
             refine done_ (done_of HT_.out (by kernel_rfl)) ?_
             try go_wp2
             go_roundg k2
             case measure => have := HJ4.out; have := HK2.out; omega
             case rel => exact ⟨(wrap64 (x5_2 + 1)), (by first | rfl | (simp; done) | (simp [*]; done)), H', ⟨by have := HJ4.out; have := HK2.out; omega⟩, ⟨by (with_reducible repeat (first | apply Kd.V_alloc | apply Kd.V_drewN | apply Kd.V_drew)); exact Kd.V_mono HO_3.out (fun _ hk => hk.1)⟩, ⟨by (with_reducible repeat (first | apply Kd.R_alloc | apply Kd.R_drewN | apply Kd.R_drew)); exact Kd.R_mono HO_4.out (fun _ hk => trivial)⟩, ⟨blw_⟩⟩
         ·rw [if_neg c26] at H
          exact absurd H (by simp)
        ·rw [if_neg c25] at H
         exact absurd H (by simp)
       ·rw [if_neg c24] at H
        have c24b0 : decide (x5_2 < (t282.length : Int)) = false := decide_eq_false c24
        clear c24
        obtain rfl := Option.some.inj H
        go_wp2
        go_ret
        exact ⟨by first | rfl | (simp [errW_none, errW_some] <;> rfl) | (simp [*, errW_none, errW_some] <;> rfl), blw_⟩

/-- THE ONE PURE STATEMENT of laws_FnStageOfCount: yours. -/
def laws_FnStageOfCount.Pure : Prop := ∀ (l0 : List Int), l0.length ≤ maxLen → l0.length * 1 ≤ 140737488351232 → (∀ x ∈ l0, (Lit.int .u8 x).wf = true) → ∃ k, laws_FnStageOfCount.f k l0 = some true
theorem laws_FnStageOfCount.walk (P : laws_FnStageOfCount.Pure) (a0 : Option Addr) (len0 cap0 : Nat) (z0 : List Int) (w : World) (w0 : (a0 = none ∧ len0 = 0 ∧ cap0 = 0 ∧ z0 = []) ∨ ∃ x, a0 = some x ∧ len0 ≤ cap0 ∧ cap0 ≤ maxLen ∧ z0.length = cap0 ∧ (∀ i, i < z0.length → w.cell? (x.add i) = some (.int .u8 (z0.getD i 0))) ∧ ∀ n ∈ z0, (Lit.int .u8 n).wf = true) (y0 : len0 * 1 ≤ 140737488351232) (hT_ : Tab w) :
  Calls Tryd.prog 4 #[.slice a0 len0 cap0] w fun e w' => e = .returned (.bool true) ∧ Below w.heap.size w w' := by
 obtain ⟨l0, rfl, hr0, hm0, hw0, hc0⟩ := ReadsInt.ofRowC w0
 obtain ⟨k, h⟩ := P l0 hm0 y0 hw0
 refine (laws_FnStageOfCount.calls k _ _ l0 true w (Kd.C_of_reads (d := (0 : Int)) (h1 := fun _ => rfl) hr0) hc0 h hT_).mono ?_
 rintro e w' ⟨rfl, hd⟩
 exact ⟨rfl, hd⟩

end Go.Proofs.YtbodhggmhbiebaaDoor.G
