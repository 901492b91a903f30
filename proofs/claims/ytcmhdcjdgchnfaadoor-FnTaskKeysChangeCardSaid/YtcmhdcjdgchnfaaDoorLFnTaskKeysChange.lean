-- SLIM
-- Written by hyb.py, a driver of this session round the print.py of the kit. Lean checks it.
import Derived.Test.YtcmhdcjdgchnfaaDoorWRepsOne
import Derived.Test.YtcmhdcjdgchnfaaDoorWTab
import Derived.Test.YtcmhdcjdgchnfaaDoorWGuard
import Derived.Test.YtcmhdcjdgchnfaaDoorG0
import Derived.Test.YtcmhdcjdgchnfaaDoorG6
import Derived.Test.YtcmhdcjdgchnfaaDoorG7
import Derived.Test.YtcmhdcjdgchnfaaDoorG8
import Derived.Test.YtcmhdcjdgchnfaaDoorHDraw
import Derived.Test.YtcmhdcjdgchnfaaDoorHKeys
import Derived.Test.YtcmhdcjdgchnfaaDoorHStale
namespace Go.Proofs.YtcmhdcjdgchnfaaDoor.G
open Go.RowKit Go.Proofs.YtcmhdcjdgchnfaaDoorW.PrintWords Go.Proofs.YtcmhdcjdgchnfaaDoorW.PrintLast Go.Proofs.YtcmhdcjdgchnfaaDoorW.PrintMore
attribute [local go_sem] max2_int min2_int max_two min_two max_three min_three max_four min_four   -- for this text's walks alone
set_option linter.unusedVariables false
set_option linter.unusedSimpArgs false

/-! ### laws_FnTaskKeysChange: function 3 -/
mutual
def laws_FnTaskKeysChange.j0 : Nat → List Int → List (S69) → List Int → List Int → Bool → Option (Bool)
 | 0, _, _, _, _, _ => none
 | k + 1, x0, x3, x4, x5, x32 => if x32 = true then ((spec_TaskKeys.f k x3 x4).bind fun t292 => ((laws_equalInts.f k x5 t292).bind fun t295 => (some t295))) else (if (x3.length : Int) = 0 then (none) else ((some (([] : List Int) : List Int)).bind fun y296 => (if y296.length + x4.length < 17592186044416 then ((some (y296 ++ x4 : List Int)).bind fun y299 => (if 0 ≤ ((x0.length : Int) % (x3.length : Int)) then (if ((x0.length : Int) % (x3.length : Int)) < (y299.length : Int) then ((impl_TaskKeys.f x3 (y299.set (((x0.length : Int) % (x3.length : Int)) : Int).toNat (Int.tmod (wrap64 ((rd y299 ((x0.length : Int) % (x3.length : Int))) + 1)) 1001))).bind fun t304 => ((impl_StaleTasks.f x3 (([(x0.length : Int) % (x3.length : Int)] : List Int))).bind fun t310 => (laws_FnTaskKeysChange.l0 k x5 ((x0.length : Int) % (x3.length : Int)) t304 t310 0))) else (none)) else (none))) else (none))))
def laws_FnTaskKeysChange.l0 : Nat → List Int → Int → List Int → List Int → Int → Option (Bool)
 | 0, _, _, _, _, _ => none
 | k + 1, x5, x6, x8, x9, x10 => if x10 < (x5.length : Int) then (if x10 ≥ (x8.length : Int) then (some false) else ((laws_isIn.f k x9 x10).bind fun t313 => (if t313 = true then (if x10 = x6 then (if 0 ≤ x10 then (if x10 < (x8.length : Int) then (if (rd x8 x10) = (rd x5 x10) then (some false) else (laws_FnTaskKeysChange.l0 k x5 x6 x8 x9 (wrap64 (x10 + 1)))) else (none)) else (none)) else (laws_FnTaskKeysChange.l0 k x5 x6 x8 x9 (wrap64 (x10 + 1)))) else (if 0 ≤ x10 then (if x10 < (x8.length : Int) then (if (rd x8 x10) = (rd x5 x10) then (if x10 = x6 then (some false) else (laws_FnTaskKeysChange.l0 k x5 x6 x8 x9 (wrap64 (x10 + 1)))) else (some false)) else (none)) else (none))))) else (some true)
end
def laws_FnTaskKeysChange.f (k : Nat) (l0 : List Int) : Option (Bool) := if (l0.length : Int) > 1048576 then (some true) else ((spec_DrawTaskKeys.f l0).bind fun bt279 => ((impl_TaskKeys.f bt279.1 bt279.2).bind fun t285 => ((spec_TaskKeys.f k bt279.1 bt279.2).bind fun t288 => ((laws_equalInts.f k t285 t288).bind fun t291 => (if t291 = true then (laws_FnTaskKeysChange.j0 k l0 bt279.1 bt279.2 t285 ((t285.length : Int) == 0)) else (laws_FnTaskKeysChange.j0 k l0 bt279.1 bt279.2 t285 true))))))
def laws_FnTaskKeysChange.T15 : Bool × List (List Nat × List Nat) := (true, [([], []), ([], []), ([1], [1]), ([0, 2], [0, 2]), ([3], [3]), ([4], [4]), ([4], [4]), ([5, 6, 4, 4], [4, 5, 6]), ([7, 4], [4, 7]), ([8, 7, 4], [4, 8]), ([9], [9]), ([9], [9]), ([10, 11, 9], [9, 10, 11]), ([12, 9], [9, 12]), ([9], [9]), ([9], [9]), ([14, 15, 9], [9, 14, 15]), ([16, 9], [9, 16]), ([13, 17, 9], [9, 13, 17]), ([9, 18, 4], [4, 9, 18]), ([4, 19], [4, 19]), ([20, 9], [20]), ([21], [21]), ([21], [21]), ([22, 23, 21], [21, 22, 23]), ([24, 21, 21], [21, 24]), ([25], [25]), ([25], [25]), ([26, 27, 25], [25, 26, 27]), ([28, 25], [25, 28]), ([25], [25]), ([25], [25]), ([30, 31, 25], [25, 30, 31]), ([32, 25], [25, 32]), ([29, 33, 25], [25, 29, 33]), ([25, 34, 21], [21, 25, 34]), ([21, 35], [21, 35])])
def laws_FnTaskKeysChange.B15 : List Nat := [0, 0, 2, 7, 15, 31, 31, 127, 255, 511, 1023, 1023, 4095, 8191, 1023, 1023, 50175, 115711, 262143, 524287, 1048575, 2097151, 4194303, 4194303, 16777215, 33554431, 67108863, 67108863, 268435455, 536870911, 67108863, 67108863, 3288334335, 7583301631, 17179869183, 34359738367, 68719476735]
theorem laws_FnTaskKeysChange.tab15 : rtab .any (opsOf Tryd.f3 15) = laws_FnTaskKeysChange.T15 := by kernel_rfl
theorem laws_FnTaskKeysChange.bits15 : waitsOk laws_FnTaskKeysChange.T15.2 laws_FnTaskKeysChange.B15 = true := by kernel_rfl
set_option maxHeartbeats 8000000 in
set_option maxRecDepth 100000 in
theorem laws_FnTaskKeysChange.calls (k : Nat) (A0 : Option Addr) (c0 : Nat) (l0 : List Int) (r : Bool) (w : World) (hr0 : Kd.C (Kd.int .u8) w A0 l0.length l0) (hc0 : l0.length ≤ c0) (h : laws_FnTaskKeysChange.f k l0 = some r) (hT_ : Tab w) :
  Calls Tryd.prog 3 #[.slice A0 l0.length c0] w fun e w' => e = .returned (.bool r) ∧ Below w.heap.size w w' := by
 have HT_ := Aside0.mk hT_
 clear hT_
 have HR0 := Aside0.mk hr0
 have HC0 := Aside0.mk hc0
 clear hr0 hc0
 have HB := Aside0.mk (Below.refl w.heap.size w)
 have H : (if (l0.length : Int) > 1048576 then (some true) else ((spec_DrawTaskKeys.f l0).bind fun bt279 => ((impl_TaskKeys.f bt279.1 bt279.2).bind fun t285 => ((spec_TaskKeys.f k bt279.1 bt279.2).bind fun t288 => ((laws_equalInts.f k t285 t288).bind fun t291 => (if t291 = true then (laws_FnTaskKeysChange.j0 k l0 bt279.1 bt279.2 t285 ((t285.length : Int) == 0)) else (laws_FnTaskKeysChange.j0 k l0 bt279.1 bt279.2 t285 true))))))) = some r := h
 clear h
 by_cases c2 : (l0.length : Int) > 1048576
 ·rw [if_pos c2] at H
  have c2b0 : decide (1048576 < (l0.length : Int)) = true := decide_eq_true c2
  have c2b1 : decide (1048576 < l0.length) = true := decide_eq_true (by omega)
  clear c2
  obtain rfl := Option.some.inj H
  go_enter Tryd.func3, Tryd.ntmps3
  go_wp2
  go_ret
  exact ⟨by first | rfl | (simp [errW_none, errW_some] <;> rfl) | (simp [*, errW_none, errW_some] <;> rfl), blw_⟩
 ·rw [if_neg c2] at H
  have c2b0 : decide (1048576 < (l0.length : Int)) = false := decide_eq_false c2
  have c2b1 : decide (1048576 < l0.length) = false := decide_eq_false (by omega)
  clear c2
  replace H := Option.bind_eq_some_iff.mp H
  obtain ⟨⟨t279, t282⟩, A30, H⟩ := H
  replace H : ((impl_TaskKeys.f t279 t282).bind fun t285 => ((spec_TaskKeys.f k t279 t282).bind fun t288 => ((laws_equalInts.f k t285 t288).bind fun t291 => (if t291 = true then (laws_FnTaskKeysChange.j0 k l0 t279 t282 t285 ((t285.length : Int) == 0)) else (laws_FnTaskKeysChange.j0 k l0 t279 t282 t285 true))))) = some r := H
  have A3 := Aside0.mk A30
  clear A30
  replace H := Option.bind_eq_some_iff.mp H
  obtain ⟨t285, A40, H⟩ := H
  replace H : ((spec_TaskKeys.f k t279 t282).bind fun t288 => ((laws_equalInts.f k t285 t288).bind fun t291 => (if t291 = true then (laws_FnTaskKeysChange.j0 k l0 t279 t282 t285 ((t285.length : Int) == 0)) else (laws_FnTaskKeysChange.j0 k l0 t279 t282 t285 true)))) = some r := H
  have A4 := Aside0.mk A40
  clear A40
  have HC5 := Aside0.mk H
  clear H
  go_enter Tryd.func3, Tryd.ntmps3
  go_upto_region 5 with (first | ((with_reducible refine gate_callee (f := 9) rfl ?_); refine goesC_ (some 16) Tryd.func9 #[.slice A0 l0.length c0] ?_; (with_reducible refine (spec_DrawTaskKeys.calls _ _ l0 t279 t282 _ ?side1 ?side2 A3.out).mono ?_); (case side1 => exact cw_ HR0.out); (case side2 => exact HC0.out); rintro e w6 ⟨v280, v283, rfl, ho0, ho1, hb⟩; refine ⟨_, rfl, ?_⟩; have n0_ := Aside0.mk (Kd.V_lower (Kd.V_mono (ok' := fun k_ => True) ho0 (fun k_ hk_ => trivial)) (below_size blw_)); have n1_ := Aside0.mk (Kd.V_lower (Kd.V_mono (ok' := fun k_ => True) ho1 (fun k_ hk_ => trivial)) (below_size blw_)); have n2_ := Aside0.mk (below_step blw_ hb); clear HB; have HO281 := n0_; have HO284 := n1_; have HB := n2_; clear n0_ n1_ n2_; (try clear hb); (try clear hb2); (try clear hk); (try clear hi); (try clear ho0); (try clear ho1); obtain ⟨Ao7, co7, eo7⟩ := Kd.V_slice HO281.out; subst eo7; obtain ⟨Ao8, co8, eo8⟩ := Kd.V_slice HO284.out; subst eo8) | ((with_reducible refine gate_callee (f := 10) rfl ?_); refine goesC_ (some 21) Tryd.func10 #[.slice Ao7 t279.length co7, .slice Ao8 t282.length co8] ?_; (with_reducible refine (impl_TaskKeys.calls _ _ t279 _ _ t282 t285 _ ?side1 ?side2 ?side3 ?side4 A4.out ?sideT).mono ?_); (case sideT => first | exact HT_.out.below blw_ HT_.out.pos | exact HT_.out); (case side1 => exact cw_ (Kd.V_reads' HO281.out).2.2); (case side2 => exact (Kd.V_reads' HO281.out).2.1); (case side3 => exact cw_ (Kd.V_reads' HO284.out).2.2); (case side4 => exact (Kd.V_reads' HO284.out).2.1); rintro e w9 ⟨v286, rfl, ho0, hb⟩; refine ⟨_, rfl, ?_⟩; have n0_ := Aside0.mk (Kd.V_elder' (by (with_reducible repeat (first | apply Kd.V_alloc | apply Kd.V_drewN | apply Kd.V_drew)); exact HO281.out) (Kd.R_base ho0) hb); have n1_ := Aside0.mk (Kd.V_elder' (by (with_reducible repeat (first | apply Kd.V_alloc | apply Kd.V_drewN | apply Kd.V_drew)); exact HO284.out) (Kd.R_base ho0) hb); have n2_ := Aside0.mk (Kd.R_lower ho0 (below_size blw_)); have n3_ := Aside0.mk (below_step blw_ hb); clear HO281; clear HO284; clear HB; have HO281 := n0_; have HO284 := n1_; have HO287 := n2_; have HB := n3_; clear n0_ n1_ n2_ n3_; (try clear hb); (try clear hb2); (try clear hk); (try clear hi); (try clear ho0)))
  (try simp only [Act.put, List.setIfInBounds_toArray, List.set_cons_zero, List.set_cons_succ])
  go_cut [32] (fun v32 wc => ∃ (kq : Nat) (x32_4 : Bool), v32 = .bool x32_4 ∧ Aside0 (laws_FnTaskKeysChange.j0 kq l0 t279 t282 t285 x32_4 = some r) ∧ Aside0 (kq ≤ k) ∧ Aside0 (Kd.V k69 69 wc w.heap.size (fun k_ => some k_ ≠ (v286 : Value).ownBlock) (.slice Ao7 t279.length co7) t279) ∧ Aside0 (Kd.V (Kd.int .i64) 3 wc w.heap.size (fun k_ => some k_ ≠ (v286 : Value).ownBlock) (.slice Ao8 t282.length co8) t282) ∧ Aside0 (Kd.R (Kd.int .i64) 3 wc w.heap.size (fun _ => True) v286 t285) ∧ Aside0 (Below w.heap.size w wc))
  case first =>
   have H := HC5.out
   clear HC5
   replace H := Option.bind_eq_some_iff.mp H
   obtain ⟨t288, A100, H⟩ := H
   replace H : ((laws_equalInts.f k t285 t288).bind fun t291 => (if t291 = true then (laws_FnTaskKeysChange.j0 k l0 t279 t282 t285 ((t285.length : Int) == 0)) else (laws_FnTaskKeysChange.j0 k l0 t279 t282 t285 true))) = some r := H
   have A10 := Aside0.mk A100
   clear A100
   replace H := Option.bind_eq_some_iff.mp H
   obtain ⟨t291, A110, H⟩ := H
   replace H : (if t291 = true then (laws_FnTaskKeysChange.j0 k l0 t279 t282 t285 ((t285.length : Int) == 0)) else (laws_FnTaskKeysChange.j0 k l0 t279 t282 t285 true)) = some r := H
   have A11 := Aside0.mk A110
   clear A110
   by_cases c12 : t291 = true
   ·subst c12
    have H1 : (laws_FnTaskKeysChange.j0 k l0 t279 t282 t285 ((t285.length : Int) == 0)) = some r := by rw [if_pos rfl] at H; exact H
    clear H
    have H := H1
    clear H1
    have H' := Aside0.mk H
    clear H
    go_wp2_with (first | ((with_reducible refine gate_callee (f := 12) rfl ?_); refine goesC_ (some 25) Tryd.func12 #[.slice Ao7 t279.length co7, .slice Ao8 t282.length co8] ?_; (with_reducible refine (spec_TaskKeys.calls k _ _ t279 _ _ t282 t288 _ ?side1 ?side2 ?side3 ?side4 A10.out).mono ?_); (case side1 => exact cw_ (Kd.V_reads' HO281.out).2.2); (case side2 => exact (Kd.V_reads' HO281.out).2.1); (case side3 => exact cw_ (Kd.V_reads' HO284.out).2.2); (case side4 => exact (Kd.V_reads' HO284.out).2.1); rintro e w13 ⟨v289, rfl, ho0, hb⟩; refine ⟨_, rfl, ?_⟩; have n0_ := Aside0.mk (Kd.V_elder' (by (with_reducible repeat (first | apply Kd.V_alloc | apply Kd.V_drewN | apply Kd.V_drew)); exact HO281.out) (Kd.R_base ho0) hb); have n1_ := Aside0.mk (Kd.V_elder' (by (with_reducible repeat (first | apply Kd.V_alloc | apply Kd.V_drewN | apply Kd.V_drew)); exact HO284.out) (Kd.R_base ho0) hb); have n2_ := Aside0.mk (Kd.R_elder' (by (with_reducible repeat (first | apply Kd.R_alloc | apply Kd.R_drewN | apply Kd.R_drew)); exact HO287.out) (Kd.R_base ho0) hb); have n3_ := Aside0.mk (Kd.R_lower (Kd.R_new' ho0 (Kd.R_lt (by (with_reducible repeat (first | apply Kd.R_alloc | apply Kd.R_drewN | apply Kd.R_drew)); exact HO287.out))) (below_size blw_)); have n4_ := Aside0.mk (below_step blw_ hb); clear HO281; clear HO284; clear HO287; clear HB; have HO281 := n0_; have HO284 := n1_; have HO287 := n2_; have HO290 := n3_; have HB := n4_; clear n0_ n1_ n2_ n3_ n4_; (try clear hb); (try clear hb2); (try clear hk); (try clear hi); (try clear ho0); obtain ⟨Ao14, co14, eo14⟩ := Kd.R_slice HO287.out; subst eo14; obtain ⟨Ao15, co15, eo15⟩ := Kd.R_slice HO290.out; subst eo15) | ((with_reducible refine gate_callee (f := 11) rfl ?_); refine goesC_ (some 26) Tryd.func11 #[.slice Ao14 t285.length co14, .slice Ao15 t288.length co15] ?_; (with_reducible refine (laws_equalInts.calls k _ _ t285 _ _ t288 true _ ?side1 ?side2 ?side3 ?side4 A11.out).mono ?_); (case side1 => exact cw_ (Kd.R_reads' HO287.out).2.2); (case side2 => exact (Kd.R_reads' HO287.out).2.1); (case side3 => exact cw_ (Kd.R_reads' HO290.out).2.2); (case side4 => exact (Kd.R_reads' HO290.out).2.1); rintro e w' ⟨rfl, ⟨nd, rfl⟩⟩; refine ⟨_, rfl, ?_⟩))
    go_meet
    case rel => exact ⟨_, (((t285.length : Int) == 0)), (by first | rfl | (simp; done) | (simp [*]; done)), H', ⟨by first | omega | exact Nat.le_refl _⟩, ⟨by (with_reducible repeat (first | apply Kd.V_alloc | apply Kd.V_drewN | apply Kd.V_drew)); exact Kd.V_mono HO281.out (fun _ hk => hk.1.2)⟩, ⟨by (with_reducible repeat (first | apply Kd.V_alloc | apply Kd.V_drewN | apply Kd.V_drew)); exact Kd.V_mono HO284.out (fun _ hk => hk.1.2)⟩, ⟨by (with_reducible repeat (first | apply Kd.R_alloc | apply Kd.R_drewN | apply Kd.R_drew)); exact Kd.R_mono HO287.out (fun _ hk => trivial)⟩, ⟨blw_⟩⟩
   ·replace c12 := Bool.eq_false_iff.mpr c12
    subst c12
    have H1 : (laws_FnTaskKeysChange.j0 k l0 t279 t282 t285 true) = some r := by rw [if_neg (show ¬ (false = true) by decide)] at H; exact H
    clear H
    have H := H1
    clear H1
    have H' := Aside0.mk H
    clear H
    go_wp2_with (first | ((with_reducible refine gate_callee (f := 12) rfl ?_); refine goesC_ (some 25) Tryd.func12 #[.slice Ao7 t279.length co7, .slice Ao8 t282.length co8] ?_; (with_reducible refine (spec_TaskKeys.calls k _ _ t279 _ _ t282 t288 _ ?side1 ?side2 ?side3 ?side4 A10.out).mono ?_); (case side1 => exact cw_ (Kd.V_reads' HO281.out).2.2); (case side2 => exact (Kd.V_reads' HO281.out).2.1); (case side3 => exact cw_ (Kd.V_reads' HO284.out).2.2); (case side4 => exact (Kd.V_reads' HO284.out).2.1); rintro e w16 ⟨v289, rfl, ho0, hb⟩; refine ⟨_, rfl, ?_⟩; have n0_ := Aside0.mk (Kd.V_elder' (by (with_reducible repeat (first | apply Kd.V_alloc | apply Kd.V_drewN | apply Kd.V_drew)); exact HO281.out) (Kd.R_base ho0) hb); have n1_ := Aside0.mk (Kd.V_elder' (by (with_reducible repeat (first | apply Kd.V_alloc | apply Kd.V_drewN | apply Kd.V_drew)); exact HO284.out) (Kd.R_base ho0) hb); have n2_ := Aside0.mk (Kd.R_elder' (by (with_reducible repeat (first | apply Kd.R_alloc | apply Kd.R_drewN | apply Kd.R_drew)); exact HO287.out) (Kd.R_base ho0) hb); have n3_ := Aside0.mk (Kd.R_lower (Kd.R_new' ho0 (Kd.R_lt (by (with_reducible repeat (first | apply Kd.R_alloc | apply Kd.R_drewN | apply Kd.R_drew)); exact HO287.out))) (below_size blw_)); have n4_ := Aside0.mk (below_step blw_ hb); clear HO281; clear HO284; clear HO287; clear HB; have HO281 := n0_; have HO284 := n1_; have HO287 := n2_; have HO290 := n3_; have HB := n4_; clear n0_ n1_ n2_ n3_ n4_; (try clear hb); (try clear hb2); (try clear hk); (try clear hi); (try clear ho0); obtain ⟨Ao17, co17, eo17⟩ := Kd.R_slice HO287.out; subst eo17; obtain ⟨Ao18, co18, eo18⟩ := Kd.R_slice HO290.out; subst eo18) | ((with_reducible refine gate_callee (f := 11) rfl ?_); refine goesC_ (some 26) Tryd.func11 #[.slice Ao17 t285.length co17, .slice Ao18 t288.length co18] ?_; (with_reducible refine (laws_equalInts.calls k _ _ t285 _ _ t288 false _ ?side1 ?side2 ?side3 ?side4 A11.out).mono ?_); (case side1 => exact cw_ (Kd.R_reads' HO287.out).2.2); (case side2 => exact (Kd.R_reads' HO287.out).2.1); (case side3 => exact cw_ (Kd.R_reads' HO290.out).2.2); (case side4 => exact (Kd.R_reads' HO290.out).2.1); rintro e w' ⟨rfl, ⟨nd, rfl⟩⟩; refine ⟨_, rfl, ?_⟩))
    go_meet
    case rel => exact ⟨_, (true), (by first | rfl | (simp; done) | (simp [*]; done)), H', ⟨by first | omega | exact Nat.le_refl _⟩, ⟨by (with_reducible repeat (first | apply Kd.V_alloc | apply Kd.V_drewN | apply Kd.V_drew)); exact Kd.V_mono HO281.out (fun _ hk => hk.1.2)⟩, ⟨by (with_reducible repeat (first | apply Kd.V_alloc | apply Kd.V_drewN | apply Kd.V_drew)); exact Kd.V_mono HO284.out (fun _ hk => hk.1.2)⟩, ⟨by (with_reducible repeat (first | apply Kd.R_alloc | apply Kd.R_drewN | apply Kd.R_drew)); exact Kd.R_mono HO287.out (fun _ hk => trivial)⟩, ⟨blw_⟩⟩
  case rest =>
   clear HC5
   try clear c1
   try clear c2
   try clear c2b0
   try clear c2b1
   try clear p2
   try clear c3
   try clear c9
   try clear c10
   try clear c11
   try clear c12
   obtain ⟨kq, x32_4, rfl, HA, HJ4, HO_3, HO_4, HO_5, HB⟩ := hcut
   cases kq with
   | zero => exact absurd HA.out (by simp [laws_FnTaskKeysChange.j0])
   | succ kj4 =>
    have H := HA.out
    clear HA
    simp only [laws_FnTaskKeysChange.j0] at H
    by_cases c19 : x32_4 = true
    ·subst c19
     have H1 : ((spec_TaskKeys.f kj4 t279 t282).bind fun t292 => ((laws_equalInts.f kj4 t285 t292).bind fun t295 => (some t295))) = some r := by rw [if_pos rfl] at H; exact H
     clear H
     have H := H1
     clear H1
     replace H := Option.bind_eq_some_iff.mp H
     obtain ⟨t292, A200, H⟩ := H
     replace H : ((laws_equalInts.f kj4 t285 t292).bind fun t295 => (some t295)) = some r := H
     have A20 := Aside0.mk A200
     clear A200
     replace H := Option.bind_eq_some_iff.mp H
     obtain ⟨t295, A210, H⟩ := H
     replace H : (some t295) = some r := H
     have A21 := Aside0.mk A210
     clear A210
     obtain rfl := Option.some.inj H
     go_wp2_with (first | ((with_reducible refine gate_callee (f := 12) rfl ?_); refine goesC_ (some 36) Tryd.func12 #[.slice Ao7 t279.length co7, .slice Ao8 t282.length co8] ?_; (with_reducible refine (spec_TaskKeys.calls kj4 _ _ t279 _ _ t282 t292 _ ?side1 ?side2 ?side3 ?side4 A20.out).mono ?_); (case side1 => exact cw_ (Kd.V_reads' HO_3.out).2.2); (case side2 => exact (Kd.V_reads' HO_3.out).2.1); (case side3 => exact cw_ (Kd.V_reads' HO_4.out).2.2); (case side4 => exact (Kd.V_reads' HO_4.out).2.1); rintro e w22 ⟨v293, rfl, ho0, hb⟩; refine ⟨_, rfl, ?_⟩; have n0_ := Aside0.mk (Kd.V_elder' (by (with_reducible repeat (first | apply Kd.V_alloc | apply Kd.V_drewN | apply Kd.V_drew)); exact HO_3.out) (Kd.R_base ho0) hb); have n1_ := Aside0.mk (Kd.V_elder' (by (with_reducible repeat (first | apply Kd.V_alloc | apply Kd.V_drewN | apply Kd.V_drew)); exact HO_4.out) (Kd.R_base ho0) hb); have n2_ := Aside0.mk (Kd.R_elder' (by (with_reducible repeat (first | apply Kd.R_alloc | apply Kd.R_drewN | apply Kd.R_drew)); exact HO_5.out) (Kd.R_base ho0) hb); have n3_ := Aside0.mk (Kd.R_lower (Kd.R_new' ho0 (Kd.R_lt (by (with_reducible repeat (first | apply Kd.R_alloc | apply Kd.R_drewN | apply Kd.R_drew)); exact HO_5.out))) (below_size blw_)); have n4_ := Aside0.mk (below_step blw_ hb); clear HO_3; clear HO_4; clear HO_5; clear HB; have HO_3 := n0_; have HO_4 := n1_; have HO_5 := n2_; have HO294 := n3_; have HB := n4_; clear n0_ n1_ n2_ n3_ n4_; (try clear hb); (try clear hb2); (try clear hk); (try clear hi); (try clear ho0); obtain ⟨Ao23, co23, eo23⟩ := Kd.R_slice HO_5.out; subst eo23; obtain ⟨Ao24, co24, eo24⟩ := Kd.R_slice HO294.out; subst eo24) | ((with_reducible refine gate_callee (f := 11) rfl ?_); refine goesC_ (some 37) Tryd.func11 #[.slice Ao23 t285.length co23, .slice Ao24 t292.length co24] ?_; (with_reducible refine (laws_equalInts.calls kj4 _ _ t285 _ _ t292 t295 _ ?side1 ?side2 ?side3 ?side4 A21.out).mono ?_); (case side1 => exact cw_ (Kd.R_reads' HO_5.out).2.2); (case side2 => exact (Kd.R_reads' HO_5.out).2.1); (case side3 => exact cw_ (Kd.R_reads' HO294.out).2.2); (case side4 => exact (Kd.R_reads' HO294.out).2.1); rintro e w' ⟨rfl, ⟨nd, rfl⟩⟩; refine ⟨_, rfl, ?_⟩))
     go_ret
     exact ⟨by first | rfl | (simp [errW_none, errW_some] <;> rfl) | (simp [*, errW_none, errW_some] <;> rfl), blw_⟩
    ·replace c19 := Bool.eq_false_iff.mpr c19
     subst c19
     have H1 : (if (t279.length : Int) = 0 then (none) else ((some (([] : List Int) : List Int)).bind fun y296 => (if y296.length + t282.length < 17592186044416 then ((some (y296 ++ t282 : List Int)).bind fun y299 => (if 0 ≤ ((l0.length : Int) % (t279.length : Int)) then (if ((l0.length : Int) % (t279.length : Int)) < (y299.length : Int) then ((impl_TaskKeys.f t279 (y299.set (((l0.length : Int) % (t279.length : Int)) : Int).toNat (Int.tmod (wrap64 ((rd y299 ((l0.length : Int) % (t279.length : Int))) + 1)) 1001))).bind fun t304 => ((impl_StaleTasks.f t279 (([(l0.length : Int) % (t279.length : Int)] : List Int))).bind fun t310 => (laws_FnTaskKeysChange.l0 kj4 t285 ((l0.length : Int) % (t279.length : Int)) t304 t310 0))) else (none)) else (none))) else (none)))) = some r := by rw [if_neg (show ¬ (false = true) by decide)] at H; exact H
     clear H
     have H := H1
     clear H1
     by_cases c25 : (t279.length : Int) = 0
     ·rw [if_pos c25] at H
      exact absurd H (by simp)
     ·rw [if_neg c25] at H
      have c25b0 : ((t279.length : Int) == 0) = false := beq_eq_false_iff_ne.mpr c25
      have c25b1 : ((t279.length : Int) != 0) = true := bne_iff_ne.mpr c25
      have c25b2 : ¬ (t279 = []) := fun h_ => c25 (by rw [h_]; rfl)
      obtain ⟨y296, hy296⟩ : ∃ y_ : List Int, y_ = (([] : List Int)) := ⟨_, rfl⟩
      replace H : (if y296.length + t282.length < 17592186044416 then ((some (y296 ++ t282 : List Int)).bind fun y299 => (if 0 ≤ ((l0.length : Int) % (t279.length : Int)) then (if ((l0.length : Int) % (t279.length : Int)) < (y299.length : Int) then ((impl_TaskKeys.f t279 (y299.set (((l0.length : Int) % (t279.length : Int)) : Int).toNat (Int.tmod (wrap64 ((rd y299 ((l0.length : Int) % (t279.length : Int))) + 1)) 1001))).bind fun t304 => ((impl_StaleTasks.f t279 (([(l0.length : Int) % (t279.length : Int)] : List Int))).bind fun t310 => (laws_FnTaskKeysChange.l0 kj4 t285 ((l0.length : Int) % (t279.length : Int)) t304 t310 0))) else (none)) else (none))) else (none)) = some r := by first | (rw [hy296]; with_reducible exact H) | (have H2_ := (Option.bind_some _ _).symm.trans H; rw [hy296]; with_reducible exact H2_) | (have H2_ := (Option.bind_some _ _).symm.trans H; with_reducible exact H2_) | with_reducible exact H | (rw [hy296]; exact H) | exact H
      have Ny296 := Aside0.mk hy296
      clear hy296
      by_cases c26 : y296.length + t282.length < 17592186044416
      ·rw [if_pos c26] at H
       have LMc26 := Aside0.mk c26
       clear c26
       obtain ⟨y299, hy299⟩ : ∃ y_ : List Int, y_ = (y296 ++ t282) := ⟨_, rfl⟩
       replace H : (if 0 ≤ ((l0.length : Int) % (t279.length : Int)) then (if ((l0.length : Int) % (t279.length : Int)) < (y299.length : Int) then ((impl_TaskKeys.f t279 (y299.set (((l0.length : Int) % (t279.length : Int)) : Int).toNat (Int.tmod (wrap64 ((rd y299 ((l0.length : Int) % (t279.length : Int))) + 1)) 1001))).bind fun t304 => ((impl_StaleTasks.f t279 (([(l0.length : Int) % (t279.length : Int)] : List Int))).bind fun t310 => (laws_FnTaskKeysChange.l0 kj4 t285 ((l0.length : Int) % (t279.length : Int)) t304 t310 0))) else (none)) else (none)) = some r := by first | (rw [hy299]; with_reducible exact H) | (have H2_ := (Option.bind_some _ _).symm.trans H; rw [hy299]; with_reducible exact H2_) | (have H2_ := (Option.bind_some _ _).symm.trans H; with_reducible exact H2_) | with_reducible exact H | (rw [hy299]; exact H) | exact H
       have Ny299 := Aside0.mk hy299
       clear hy299
       obtain ⟨ji27, hji27⟩ : ∃ j_ : Int, ((l0.length : Int) % (t279.length : Int)) = j_ := ⟨_, rfl⟩
       replace H : (if 0 ≤ (ji27) then (if (ji27) < (y299.length : Int) then ((impl_TaskKeys.f t279 (y299.set ((ji27) : Int).toNat (Int.tmod (wrap64 ((rd y299 (ji27)) + 1)) 1001))).bind fun t304 => ((impl_StaleTasks.f t279 (([ji27] : List Int))).bind fun t310 => (laws_FnTaskKeysChange.l0 kj4 t285 ji27 t304 t310 0))) else (none)) else (none)) = some r := by first | (rw [hji27] at H; exact H) | (simp only [hji27] at H ⊢; exact H)
       by_cases c28 : 0 ≤ (ji27)
       ·rw [if_pos c28] at H
        have c28b0 : decide (0 ≤ (ji27)) = true := decide_eq_true c28
        clear c28
        by_cases c29 : (ji27) < (y299.length : Int)
        ·rw [if_pos c29] at H
         have c29b0 : decide ((ji27) < (y299.length : Int)) = true := decide_eq_true c29
         clear c29
         obtain ⟨y303, hy303⟩ : ∃ y_ : List Int, y_ = (y299.set ((ji27) : Int).toNat (Int.tmod (wrap64 ((rd y299 (ji27)) + 1)) 1001)) := ⟨_, rfl⟩
         replace H : ((impl_TaskKeys.f t279 y303).bind fun t304 => ((impl_StaleTasks.f t279 (([ji27] : List Int))).bind fun t310 => (laws_FnTaskKeysChange.l0 kj4 t285 ji27 t304 t310 0))) = some r := by first | (rw [hy303]; with_reducible exact H) | (have H2_ := (Option.bind_some _ _).symm.trans H; rw [hy303]; with_reducible exact H2_) | (have H2_ := (Option.bind_some _ _).symm.trans H; with_reducible exact H2_) | with_reducible exact H | (rw [hy303]; exact H) | exact H
         have Ny303 := Aside0.mk hy303
         clear hy303
         replace H := Option.bind_eq_some_iff.mp H
         obtain ⟨t304, A310, H⟩ := H
         replace H : ((impl_StaleTasks.f t279 (([ji27] : List Int))).bind fun t310 => (laws_FnTaskKeysChange.l0 kj4 t285 ji27 t304 t310 0)) = some r := H
         have A31 := Aside0.mk A310
         clear A310
         obtain ⟨y307, hy307⟩ : ∃ y_ : List Int, y_ = (([ji27] : List Int)) := ⟨_, rfl⟩
         replace H : ((impl_StaleTasks.f t279 y307).bind fun t310 => (laws_FnTaskKeysChange.l0 kj4 t285 ji27 t304 t310 0)) = some r := by first | (rw [hy307]; with_reducible exact H) | (have H2_ := (Option.bind_some _ _).symm.trans H; rw [hy307]; with_reducible exact H2_) | (have H2_ := (Option.bind_some _ _).symm.trans H; with_reducible exact H2_) | with_reducible exact H | (rw [hy307]; exact H) | exact H
         have Ny307 := Aside0.mk hy307
         clear hy307
         replace H := Option.bind_eq_some_iff.mp H
         obtain ⟨t310, A320, H⟩ := H
         replace H : (laws_FnTaskKeysChange.l0 kj4 t285 ji27 t304 t310 0) = some r := H
         have A32 := Aside0.mk A320
         clear A320
         have H' := Aside0.mk H
         clear H
         go_wp2_with (first | ((with_reducible refine gate_dst (N := 43) rfl ?_); (try (refine gate_guard (by rfl) ?_; dsimp only)); refine Kd.R_lit (Kd.int .i64) _ 3 ?hg (N := 43) ?hd (xs := ([] : List Int)) (inner := []) (ok := fun _ => True) (okp := fun _ => True) ?hr ?hp (fun _ hk => hk) trivial (Below.refl _ _) (Nat.le_refl _) (by simp) ?_; (case hd => rfl); (case hg => rfl); (case hr => first | (go_simp; done) | (go_simp; rfl)); (case hp => exact (Reps.none _ _)); intro v297 w33 ho34 hb hg_ hnew_; clear hg_ hnew_; (first | rw [← Ny296.out] at ho34 | (simp only [Int.reduceToNat] at ho34; rw [← Ny296.out] at ho34)); have n0_ := Aside0.mk (Kd.V_elder' (by (with_reducible repeat (first | apply Kd.V_alloc | apply Kd.V_drewN | apply Kd.V_drew)); exact HO_3.out) (Kd.R_base ho34) hb); have n1_ := Aside0.mk (Kd.V_elder' (by (with_reducible repeat (first | apply Kd.V_alloc | apply Kd.V_drewN | apply Kd.V_drew)); exact HO_4.out) (Kd.R_base ho34) hb); have n2_ := Aside0.mk (Kd.R_elder' (by (with_reducible repeat (first | apply Kd.R_alloc | apply Kd.R_drewN | apply Kd.R_drew)); exact HO_5.out) (Kd.R_base ho34) hb); have n3_ := Aside0.mk (Kd.R_lower (Kd.R_new' ho34 (Kd.R_lt (by (with_reducible repeat (first | apply Kd.R_alloc | apply Kd.R_drewN | apply Kd.R_drew)); exact HO_5.out))) (below_size blw_)); have n4_ := Aside0.mk (below_step blw_ hb); clear HO_3; clear HO_4; clear HO_5; clear HB; have HO_3 := n0_; have HO_4 := n1_; have HO_5 := n2_; have HO298 := n3_; have HB := n4_; clear n0_ n1_ n2_ n3_ n4_; clear hb ho34) | ((with_reducible refine gate_builtin (b := .append) (xs := #[.tmp 43, .tmp 44]) rfl ?_); (try (refine gate_guard (by rfl) ?_; dsimp only)); at_builtin; refine Kd.R_append_rows (Kd.int .i64) (w0 := w) w.heap.size rfl (.tmp 43) (.tmp 44) 24 3 (.int .i64 0) 8 rfl Tryd.underlying24 info3 rfl (by decide) (by omega) v297 y296 t282 _ _ _ (fun k_ => some k_ ≠ (v286 : Value).ownBlock) (fun _ => False) rfl rfl ?aO ?aR (fun _ _ h => h) (fun _ h => h.elim) ?aF ?aB ?aS ?aL ?_; (case aR => exact cw_ (Kd.V_reads' HO_4.out).2.2); (case aB => exact blw_); (case aF => exact (fun k_ hk => Kd.fresh' (Kd.R_lt (by (with_reducible repeat (first | apply Kd.R_alloc | apply Kd.R_drewN | apply Kd.R_drew)); exact HO_5.out)) k_ hk)); (case aO => exact (by (with_reducible repeat (first | apply Kd.R_alloc | apply Kd.R_drewN | apply Kd.R_drew)); exact Kd.R_mono HO298.out (fun _ hk => hk.2))); (case aS => exact (below_size blw_)); (case aL => have := LMc26.out; omega); intro v300 w35 ho hb hg hat; rw [← Ny299.out] at ho; have n0_ := Aside0.mk (Kd.V_afterv (ok := (fun k_ => some k_ ≠ (v286 : Value).ownBlock)) (by (with_reducible repeat (first | apply Kd.V_alloc | apply Kd.V_drewN | apply Kd.V_drew)); exact HO_3.out) hg hat); have n1_ := Aside0.mk (Kd.V_afterv (ok := (fun k_ => some k_ ≠ (v286 : Value).ownBlock)) (by (with_reducible repeat (first | apply Kd.V_alloc | apply Kd.V_drewN | apply Kd.V_drew)); exact HO_4.out) hg hat); have n2_ := Aside0.mk (Kd.R_after (ok := (fun _ => True)) (by (with_reducible repeat (first | apply Kd.R_alloc | apply Kd.R_drewN | apply Kd.R_drew)); exact HO_5.out) hg hat); have n3_ := Aside0.mk (hb); have n4_ := Aside0.mk (ho); clear HO_3; clear HO_4; clear HO_5; clear HB; clear HO298; have HO_3 := n0_; have HO_4 := n1_; have HO_5 := n2_; have HB := n3_; have HO301 := n4_; clear n0_ n1_ n2_ n3_ n4_; clear ho hb hg hat; obtain ⟨Ao36, co36, eo36⟩ := Kd.R_slice HO301.out; subst eo36; have p302 : 0 ≤ ((ji27) : Int) := of_decide_eq_true (by first | (with_reducible assumption) | assumption); have q302 : (ji27) < (y299.length : Int) := of_decide_eq_true (by first | (with_reducible assumption) | assumption); obtain ⟨ad302, e302, hx302_0⟩ := Kd.at_int (Kd.R_reads' HO301.out).2.2 (ji27) p302 q302; cases e302; replace p302 := eq_true p302; replace q302 := eq_true q302; have p30 : 0 ≤ ((ji27) : Int) := of_decide_eq_true (by first | (with_reducible assumption) | assumption); have q30 : ((ji27) : Int) < ((y299.length : Int) : Int) := of_decide_eq_true (by first | (with_reducible assumption) | assumption); obtain ⟨go30, co30, eo30, gb30, gl30, cl30, HG30⟩ := Kd.R_form HO301.out (by omega); (first | cases eo30 | (injection eo30 with ea_ en_ ec_; (first | subst ea_ | (injection ea_ with ea_; subst ea_)); subst ec_; clear en_)); have GB30 := Aside0.mk gb30; have GG30 := Aside0.mk HG30; clear gb30 gl30 HG30; (first | simp only [add_plain] at hx302_0 | skip); obtain ⟨hx30_0, hf30_0⟩ := Kd.R_celln 0 HO301.out ((ji27) : Int) p30 q30; replace p30 := eq_true p30; replace q30 := eq_true q30; obtain ⟨hy37_, hz37_⟩ := Kd.R_celln 0 HO301.out ((ji27) : Int) (of_decide_eq_true (by first | (with_reducible assumption) | assumption)) (of_decide_eq_true (by first | (with_reducible assumption) | assumption)); have HP37 := Kd.R_putg HO301.out ((ji27) : Int) (Int.tmod (wrap64 ((rd y299 (ji27)) + 1)) 1001)) | ((with_reducible refine gate_store (t := 3) (p := 54) rfl ?_); refine store_event (t := 3) (p := 54) (v := ?vo_w38) (w1 := (w35.setCell ⟨go30, ((ji27) : Int).toNat, none⟩ (.int .i64 (Int.tmod (wrap64 ((rd y299 (ji27)) + 1)) 1001)))) ?hg ?ho ?hn ?hr ?_; (case ho => rfl); (case hg => rfl); (case hn => rfl); (case hr => first | (go_simp; done) | (go_simp; rfl)); intro w38 hw; have hg : w35.grownBy w38 (some go30) := (by rw [hw]; exact HP37.2); have hp_ : Kd.R (Kd.int .i64) 3 w38 w.heap.size (fun k_ => some k_ ≠ (v286 : Value).ownBlock) (.slice (some ⟨go30, 0, none⟩) y299.length co36) y303 := (by rw [hw, Ny303.out]; exact HP37.1); clear HP37; have n0_ := Aside0.mk (Kd.V_afterv (v := (.slice (some ⟨go30, 0, none⟩) y299.length co36)) (v1 := (.slice (some ⟨go30, 0, none⟩) y299.length co36)) (ok := (fun k_ => some k_ ≠ (v286 : Value).ownBlock)) (by (with_reducible repeat (first | apply Kd.V_alloc | apply Kd.V_drewN | apply Kd.V_drew)); exact HO_3.out) hg (.inl rfl)); have n1_ := Aside0.mk (Kd.V_afterv (v := (.slice (some ⟨go30, 0, none⟩) y299.length co36)) (v1 := (.slice (some ⟨go30, 0, none⟩) y299.length co36)) (ok := (fun k_ => some k_ ≠ (v286 : Value).ownBlock)) (by (with_reducible repeat (first | apply Kd.V_alloc | apply Kd.V_drewN | apply Kd.V_drew)); exact HO_4.out) hg (.inl rfl)); have n2_ := Aside0.mk (Kd.R_after (v := (.slice (some ⟨go30, 0, none⟩) y299.length co36)) (v1 := (.slice (some ⟨go30, 0, none⟩) y299.length co36)) (ok := (fun _ => True)) (by (with_reducible repeat (first | apply Kd.R_alloc | apply Kd.R_drewN | apply Kd.R_drew)); exact HO_5.out) hg (.inl rfl)); have n3_ := Aside0.mk (hp_); have n4_ := Aside0.mk ((by rw [hw]; exact below_set (HB.out) GB30.out : Below w.heap.size w w38)); clear HO_3; clear HO_4; clear HO_5; clear HO301; clear HB; have HO_3 := n0_; have HO_4 := n1_; have HO_5 := n2_; have HO301 := n3_; have HB := n4_; clear n0_ n1_ n2_ n3_ n4_; clear hg hw hp_) | ((with_reducible refine gate_callee (f := 10) rfl ?_); refine goesL_ (some 57) rfl rfl Tryd.func10 (by kernel_rfl) rfl #[.slice Ao7 t279.length co7, .slice (some ⟨go30, 0, none⟩) y303.length co36] rfl (by (try simp only [List.map_toArray, List.map_cons, List.map_nil]); first | done | (rw [show y303.length = y299.length from (Kd.R_reads' HO301.out).1.symm] <;> rfl) | rfl | (simp only [List.length_drop, List.length_take]; rfl)) ?_; (with_reducible refine (impl_TaskKeys.calls _ _ t279 _ _ y303 t304 _ ?side1 ?side2 ?side3 ?side4 A31.out ?sideT).mono ?_); (case sideT => first | exact HT_.out.below blw_ HT_.out.pos | exact HT_.out); (case side1 => exact cw_ (Kd.V_reads' HO_3.out).2.2); (case side2 => exact (Kd.V_reads' HO_3.out).2.1); (case side3 => exact cw_ (Kd.R_reads' HO301.out).2.2); (case side4 => rw [show y303.length = y299.length from (Kd.R_reads' HO301.out).1.symm]; exact (Kd.R_reads' HO301.out).2.1); rintro e w39 ⟨v305, rfl, ho0, hb⟩; refine ⟨_, rfl, ?_⟩; have n0_ := Aside0.mk (Kd.V_elder' (by (with_reducible repeat (first | apply Kd.V_alloc | apply Kd.V_drewN | apply Kd.V_drew)); exact HO_3.out) (Kd.R_base ho0) hb); have n1_ := Aside0.mk (Kd.V_elder' (by (with_reducible repeat (first | apply Kd.V_alloc | apply Kd.V_drewN | apply Kd.V_drew)); exact HO_4.out) (Kd.R_base ho0) hb); have n2_ := Aside0.mk (Kd.R_elder' (by (with_reducible repeat (first | apply Kd.R_alloc | apply Kd.R_drewN | apply Kd.R_drew)); exact HO_5.out) (Kd.R_base ho0) hb); have n3_ := Aside0.mk (Kd.R_elder' (by (with_reducible repeat (first | apply Kd.R_alloc | apply Kd.R_drewN | apply Kd.R_drew)); exact HO301.out) (Kd.R_base ho0) hb); have n4_ := Aside0.mk (Kd.R_lower (Kd.R_new' (Kd.R_new' ho0 (Kd.R_lt (by (with_reducible repeat (first | apply Kd.R_alloc | apply Kd.R_drewN | apply Kd.R_drew)); exact HO_5.out))) (Kd.R_lt (by (with_reducible repeat (first | apply Kd.R_alloc | apply Kd.R_drewN | apply Kd.R_drew)); exact HO301.out))) (below_size blw_)); have n5_ := Aside0.mk (below_step blw_ hb); clear HO_3; clear HO_4; clear HO_5; clear HO301; clear HB; have HO_3 := n0_; have HO_4 := n1_; have HO_5 := n2_; have HO301 := n3_; have HO306 := n4_; have HB := n5_; clear n0_ n1_ n2_ n3_ n4_ n5_; (try clear hb); (try clear hb2); (try clear hk); (try clear hi); (try clear ho0)) | ((with_reducible refine gate_dst (N := 60) rfl ?_); (try (refine gate_guard (by rfl) ?_; dsimp only)); refine Kd.R_lit (Kd.int .i64) _ 3 ?hg (N := 60) ?hd (xs := ([ji27] : List Int)) (inner := [.int .i64 ji27]) (ok := fun _ => True) (okp := fun _ => True) ?hr ?hp (fun _ hk => hk) trivial (Below.refl _ _) (Nat.le_refl _) (by simp) ?_; (case hd => rfl); (case hg => rfl); (case hr => first | (go_simp; done) | (go_simp; rfl)); (case hp => exact (Reps.one (show Kd.M (Kd.int .i64) _ _ _ ji27 [.int .i64 ji27] from rfl) (Reps.none _ _))); intro v308 w40 ho41 hb hg_ hnew_; clear hg_ hnew_; (first | rw [← Ny307.out] at ho41 | (simp only [Int.reduceToNat] at ho41; rw [← Ny307.out] at ho41)); have n0_ := Aside0.mk (Kd.V_elder' (by (with_reducible repeat (first | apply Kd.V_alloc | apply Kd.V_drewN | apply Kd.V_drew)); exact HO_3.out) (Kd.R_base ho41) hb); have n1_ := Aside0.mk (Kd.V_elder' (by (with_reducible repeat (first | apply Kd.V_alloc | apply Kd.V_drewN | apply Kd.V_drew)); exact HO_4.out) (Kd.R_base ho41) hb); have n2_ := Aside0.mk (Kd.R_elder' (by (with_reducible repeat (first | apply Kd.R_alloc | apply Kd.R_drewN | apply Kd.R_drew)); exact HO_5.out) (Kd.R_base ho41) hb); have n3_ := Aside0.mk (Kd.R_elder' (by (with_reducible repeat (first | apply Kd.R_alloc | apply Kd.R_drewN | apply Kd.R_drew)); exact HO301.out) (Kd.R_base ho41) hb); have n4_ := Aside0.mk (Kd.R_elder' (by (with_reducible repeat (first | apply Kd.R_alloc | apply Kd.R_drewN | apply Kd.R_drew)); exact HO306.out) (Kd.R_base ho41) hb); have n5_ := Aside0.mk (Kd.R_lower (Kd.R_new' (Kd.R_new' (Kd.R_new' ho41 (Kd.R_lt (by (with_reducible repeat (first | apply Kd.R_alloc | apply Kd.R_drewN | apply Kd.R_drew)); exact HO_5.out))) (Kd.R_lt (by (with_reducible repeat (first | apply Kd.R_alloc | apply Kd.R_drewN | apply Kd.R_drew)); exact HO301.out))) (Kd.R_lt (by (with_reducible repeat (first | apply Kd.R_alloc | apply Kd.R_drewN | apply Kd.R_drew)); exact HO306.out))) (below_size blw_)); have n6_ := Aside0.mk (below_step blw_ hb); clear HO_3; clear HO_4; clear HO_5; clear HO301; clear HO306; clear HB; have HO_3 := n0_; have HO_4 := n1_; have HO_5 := n2_; have HO301 := n3_; have HO306 := n4_; have HO309 := n5_; have HB := n6_; clear n0_ n1_ n2_ n3_ n4_ n5_ n6_; clear hb ho41; obtain ⟨Ao42, co42, eo42⟩ := Kd.R_slice HO309.out; subst eo42) | ((with_reducible refine gate_callee (f := 13) rfl ?_); refine goesC_ (some 61) Tryd.func13 #[.slice Ao7 t279.length co7, .slice Ao42 y307.length co42] ?_; (with_reducible refine (impl_StaleTasks.calls _ _ t279 _ _ y307 t310 _ ?side1 ?side2 ?side3 ?side4 A32.out ?sideT).mono ?_); (case sideT => first | exact HT_.out.below blw_ HT_.out.pos | exact HT_.out); (case side1 => exact cw_ (Kd.V_reads' HO_3.out).2.2); (case side2 => exact (Kd.V_reads' HO_3.out).2.1); (case side3 => exact cw_ (Kd.R_reads' HO309.out).2.2); (case side4 => exact (Kd.R_reads' HO309.out).2.1); rintro e w43 ⟨v311, rfl, ho0, hb⟩; refine ⟨_, rfl, ?_⟩; have n0_ := Aside0.mk (Kd.V_elder' (by (with_reducible repeat (first | apply Kd.V_alloc | apply Kd.V_drewN | apply Kd.V_drew)); exact HO_3.out) (Kd.R_base ho0) hb); have n1_ := Aside0.mk (Kd.V_elder' (by (with_reducible repeat (first | apply Kd.V_alloc | apply Kd.V_drewN | apply Kd.V_drew)); exact HO_4.out) (Kd.R_base ho0) hb); have n2_ := Aside0.mk (Kd.R_elder' (by (with_reducible repeat (first | apply Kd.R_alloc | apply Kd.R_drewN | apply Kd.R_drew)); exact HO_5.out) (Kd.R_base ho0) hb); have n3_ := Aside0.mk (Kd.R_elder' (by (with_reducible repeat (first | apply Kd.R_alloc | apply Kd.R_drewN | apply Kd.R_drew)); exact HO301.out) (Kd.R_base ho0) hb); have n4_ := Aside0.mk (Kd.R_elder' (by (with_reducible repeat (first | apply Kd.R_alloc | apply Kd.R_drewN | apply Kd.R_drew)); exact HO306.out) (Kd.R_base ho0) hb); have n5_ := Aside0.mk (Kd.R_elder' (by (with_reducible repeat (first | apply Kd.R_alloc | apply Kd.R_drewN | apply Kd.R_drew)); exact HO309.out) (Kd.R_base ho0) hb); have n6_ := Aside0.mk (Kd.R_lower (Kd.R_new' (Kd.R_new' (Kd.R_new' (Kd.R_new' ho0 (Kd.R_lt (by (with_reducible repeat (first | apply Kd.R_alloc | apply Kd.R_drewN | apply Kd.R_drew)); exact HO_5.out))) (Kd.R_lt (by (with_reducible repeat (first | apply Kd.R_alloc | apply Kd.R_drewN | apply Kd.R_drew)); exact HO301.out))) (Kd.R_lt (by (with_reducible repeat (first | apply Kd.R_alloc | apply Kd.R_drewN | apply Kd.R_drew)); exact HO306.out))) (Kd.R_lt (by (with_reducible repeat (first | apply Kd.R_alloc | apply Kd.R_drewN | apply Kd.R_drew)); exact HO309.out))) (below_size blw_)); have n7_ := Aside0.mk (below_step blw_ hb); clear HO_3; clear HO_4; clear HO_5; clear HO301; clear HO306; clear HO309; clear HB; have HO_3 := n0_; have HO_4 := n1_; have HO_5 := n2_; have HO301 := n3_; have HO306 := n4_; have HO309 := n5_; have HO312 := n6_; have HB := n7_; clear n0_ n1_ n2_ n3_ n4_ n5_ n6_ n7_; (try clear hb); (try clear hb2); (try clear hk); (try clear hi); (try clear ho0)))
         go_loopg [10] kj4 (fun kq v10 w' => ∃ (x10_2 : Int), v10 = .int .i64 x10_2 ∧ Aside0 (laws_FnTaskKeysChange.l0 kq t285 ji27 t304 t310 x10_2 = some r) ∧ Aside0 (kq ≤ kj4) ∧ Aside0 (Kd.R (Kd.int .i64) 3 w' w.heap.size (fun k_ => some k_ ≠ (v305 : Value).ownBlock ∧ some k_ ≠ (v311 : Value).ownBlock) v286 t285) ∧ Aside0 (Kd.R (Kd.int .i64) 3 w' w.heap.size (fun k_ => some k_ ≠ (v286 : Value).ownBlock ∧ some k_ ≠ (v311 : Value).ownBlock) v305 t304) ∧ Aside0 (Kd.R (Kd.int .i64) 3 w' w.heap.size (fun k_ => some k_ ≠ (v286 : Value).ownBlock ∧ some k_ ≠ (v305 : Value).ownBlock) v311 t310) ∧ Aside0 (Below w.heap.size w w'))
         case atStart => exact ⟨(0), (by first | rfl | (simp; done) | (simp [*]; done)), H', ⟨Nat.le_refl _⟩, ⟨by (with_reducible repeat (first | apply Kd.R_alloc | apply Kd.R_drewN | apply Kd.R_drew)); exact Kd.R_mono HO_5.out (fun _ hk => ⟨hk.1.1.2, hk.2⟩)⟩, ⟨by (with_reducible repeat (first | apply Kd.R_alloc | apply Kd.R_drewN | apply Kd.R_drew)); exact Kd.R_mono HO306.out (fun _ hk => ⟨hk.1.1.1.2, hk.2⟩)⟩, ⟨by (with_reducible repeat (first | apply Kd.R_alloc | apply Kd.R_drewN | apply Kd.R_drew)); exact Kd.R_mono HO312.out (fun _ hk => ⟨hk.1.1.1.2, hk.1.2⟩)⟩, ⟨blw_⟩⟩
         case round =>
          clear H'
          try clear c1
          try clear c2
          try clear c2b0
          try clear c2b1
          try clear p2
          try clear c3
          try clear p3
          try clear q3
          try clear hx3
          try clear hf3
          try clear p6
          try clear c9
          try clear c10
          try clear c11
          try clear c12
          try clear c13
          try clear c19
          try clear c25
          try clear c25b0
          try clear c25b1
          try clear c25b2
          try clear c26
          try clear c28
          try clear c28b0
          try clear c29
          try clear c29b0
          try clear p30
          try clear q30
          try clear hx30
          try clear hf30
          try clear hx302_0
          try clear hx30_0
          try clear p2
          try clear p30
          try clear p302
          try clear q30
          try clear q302
          obtain ⟨x10_2, rfl, HA, HK2, HO_5, HO_8, HO_9, HB⟩ := hrel
          cases gk with
          | zero => exact absurd HA.out (by simp [laws_FnTaskKeysChange.l0])
          | succ k2 =>
           have H := HA.out
           clear HA
           simp only [laws_FnTaskKeysChange.l0] at H
           by_cases c44 : x10_2 < (t285.length : Int)
           ·rw [if_pos c44] at H
            have c44b0 : decide (x10_2 < (t285.length : Int)) = true := decide_eq_true c44
            clear c44
            by_cases c45 : x10_2 ≥ (t304.length : Int)
            ·rw [if_pos c45] at H
             have c45b0 : decide ((t304.length : Int) ≤ x10_2) = true := decide_eq_true c45
             clear c45
             obtain rfl := Option.some.inj H
             obtain ⟨Ao46, co46, eo46⟩ := Kd.R_slice HO_5.out
             subst eo46
             try go_wp2
             have n0_ := Aside0.mk (Kd.R_drew HO_5.out)
             have n1_ := Aside0.mk (Kd.R_drew HO_8.out)
             have n2_ := Aside0.mk (Kd.R_drew HO_9.out)
             have n3_ := Aside0.mk (below_drew1 HB.out)
             clear HO_5
             clear HO_8
             clear HO_9
             clear HB
             have HO_5 := n0_
             have HO_8 := n1_
             have HO_9 := n2_
             have HB := n3_
             clear n0_ n1_ n2_ n3_
             obtain ⟨Ao48, co48, eo48⟩ := Kd.R_slice HO_8.out
             (first | subst eo48 | (injection eo48 with f1_ f2_ f3_; have f4_ := f1_.symm; have f5_ := f3_.symm; clear f1_ f2_ f3_; subst f4_; subst f5_))
             refine start_ (n := 37) (S := fun w' => True) (ds := []) (bs 37 0) (by kernel_rfl) rfl (by kernel_rfl) trivial (fun hHeld => ?_); refine with_tabW laws_FnTaskKeysChange.tab15 laws_FnTaskKeysChange.bits15 (fun HT_ HW_ => ?_)
             generalize wr.drew = w47 at HO_5 HO_8 HO_9 HB hHeld ⊢
             refine pT_ HT_.out 0 68 (bs 37 1) ?_
             refine pT_ HT_.out 1 69 (bs 37 3) ?_
             refine pT_ HT_.out 2 70 (bs 37 7) ?_
             refine pT_ HT_.out 3 71 (bs 37 15) ?_
             refine pT_ HT_.out 4 72 (bs 37 31) ?_
             refine pU_ HT_.out 5 73 (bs 37 63) ?_
             refine pU_ HT_.out 6 74 (bs 37 127) ?_
             refine pU_ HT_.out 7 75 (bs 37 255) ?_
             refine pU_ HT_.out 8 76 (bs 37 511) ?_
             refine pU_ HT_.out 9 77 (bs 37 1023) ?_
             refine pU_ HT_.out 10 78 (bs 37 2047) ?_
             refine pU_ HT_.out 11 79 (bs 37 4095) ?_
             refine pU_ HT_.out 12 80 (bs 37 8191) ?_
             refine pU_ HT_.out 13 81 (bs 37 16383) ?_
             refine pU_ HT_.out 14 82 (bs 37 32767) ?_
             refine pU_ HT_.out 15 83 (bs 37 65535) ?_
             refine pU_ HT_.out 16 84 (bs 37 131071) ?_
             refine pU_ HT_.out 17 85 (bs 37 262143) ?_
             refine pU_ HT_.out 18 86 (bs 37 524287) ?_
             refine pU_ HT_.out 19 87 (bs 37 1048575) ?_
             refine pT_ HT_.out 20 88 (bs 37 2097151) ?_
             refine pT_ HT_.out 21 89 (bs 37 4194303) ?_
             refine pU_ HT_.out 22 90 (bs 37 8388607) ?_
             refine pU_ HT_.out 23 91 (bs 37 16777215) ?_
             refine pU_ HT_.out 24 92 (bs 37 33554431) ?_
             refine pU_ HT_.out 25 93 (bs 37 67108863) ?_
             refine pU_ HT_.out 26 94 (bs 37 134217727) ?_
             refine pU_ HT_.out 27 95 (bs 37 268435455) ?_
             refine pU_ HT_.out 28 96 (bs 37 536870911) ?_
             refine pU_ HT_.out 29 97 (bs 37 1073741823) ?_
             refine pU_ HT_.out 30 98 (bs 37 2147483647) ?_
             refine pU_ HT_.out 31 99 (bs 37 4294967295) ?_
             refine pU_ HT_.out 32 100 (bs 37 8589934591) ?_
             refine pU_ HT_.out 33 101 (bs 37 17179869183) ?_
             refine pU_ HT_.out 34 102 (bs 37 34359738367) ?_
             refine pU_ HT_.out 35 103 (bs 37 68719476735) ?_
             refine pT_ HT_.out 36 104 (bs 37 137438953471) ?_
             refine done_ (done_of HT_.out (by kernel_rfl)) ?_
             try go_wp2
             go_ret
             exact ⟨by first | rfl | (simp [errW_none, errW_some] <;> rfl) | (simp only [← hji27]; first | rfl | (simp [errW_none, errW_some] <;> rfl)) | (simp [*, errW_none, errW_some] <;> rfl), blw_⟩
            ·rw [if_neg c45] at H
             have c45b0 : decide ((t304.length : Int) ≤ x10_2) = false := decide_eq_false c45
             clear c45
             replace H := Option.bind_eq_some_iff.mp H
             obtain ⟨t313, A490, H⟩ := H
             replace H : (if t313 = true then (if x10_2 = ji27 then (if 0 ≤ x10_2 then (if x10_2 < (t304.length : Int) then (if (rd t304 x10_2) = (rd t285 x10_2) then (some false) else (laws_FnTaskKeysChange.l0 k2 t285 ji27 t304 t310 (wrap64 (x10_2 + 1)))) else (none)) else (none)) else (laws_FnTaskKeysChange.l0 k2 t285 ji27 t304 t310 (wrap64 (x10_2 + 1)))) else (if 0 ≤ x10_2 then (if x10_2 < (t304.length : Int) then (if (rd t304 x10_2) = (rd t285 x10_2) then (if x10_2 = ji27 then (some false) else (laws_FnTaskKeysChange.l0 k2 t285 ji27 t304 t310 (wrap64 (x10_2 + 1)))) else (some false)) else (none)) else (none))) = some r := H
             have A49 := Aside0.mk A490
             clear A490
             by_cases c50 : t313 = true
             ·subst c50
              have H1 : (if x10_2 = ji27 then (if 0 ≤ x10_2 then (if x10_2 < (t304.length : Int) then (if (rd t304 x10_2) = (rd t285 x10_2) then (some false) else (laws_FnTaskKeysChange.l0 k2 t285 ji27 t304 t310 (wrap64 (x10_2 + 1)))) else (none)) else (none)) else (laws_FnTaskKeysChange.l0 k2 t285 ji27 t304 t310 (wrap64 (x10_2 + 1)))) = some r := by rw [if_pos rfl] at H; exact H
              clear H
              have H := H1
              clear H1
              by_cases c51 : x10_2 = ji27
              ·rw [if_pos c51] at H
               have c51b0 : (x10_2 == ji27) = true := beq_iff_eq.mpr c51
               have c51b1 : (x10_2 != ji27) = false := bne_eq_false_iff_eq.mpr c51
               clear c51
               by_cases c52 : 0 ≤ x10_2
               ·rw [if_pos c52] at H
                have c52b0 : decide (0 ≤ x10_2) = true := decide_eq_true c52
                clear c52
                by_cases c53 : x10_2 < (t304.length : Int)
                ·rw [if_pos c53] at H
                 have c53b0 : decide (x10_2 < (t304.length : Int)) = true := decide_eq_true c53
                 clear c53
                 by_cases c54 : (rd t304 x10_2) = (rd t285 x10_2)
                 ·rw [if_pos c54] at H
                  have c54b0 : ((rd t304 x10_2) == (rd t285 x10_2)) = true := beq_iff_eq.mpr c54
                  have c54b1 : ((rd t304 x10_2) != (rd t285 x10_2)) = false := bne_eq_false_iff_eq.mpr c54
                  clear c54
                  obtain rfl := Option.some.inj H
                  obtain ⟨Ao55, co55, eo55⟩ := Kd.R_slice HO_5.out
                  subst eo55
                  try go_wp2
                  have n0_ := Aside0.mk (Kd.R_drew HO_5.out)
                  have n1_ := Aside0.mk (Kd.R_drew HO_8.out)
                  have n2_ := Aside0.mk (Kd.R_drew HO_9.out)
                  have n3_ := Aside0.mk (below_drew1 HB.out)
                  clear HO_5
                  clear HO_8
                  clear HO_9
                  clear HB
                  have HO_5 := n0_
                  have HO_8 := n1_
                  have HO_9 := n2_
                  have HB := n3_
                  clear n0_ n1_ n2_ n3_
                  obtain ⟨Ao57, co57, eo57⟩ := Kd.R_slice HO_8.out
                  (first | subst eo57 | (injection eo57 with f1_ f2_ f3_; have f4_ := f1_.symm; have f5_ := f3_.symm; clear f1_ f2_ f3_; subst f4_; subst f5_))
                  obtain ⟨Ao58, co58, eo58⟩ := Kd.R_slice HO_9.out
                  (first | subst eo58 | (injection eo58 with f1_ f2_ f3_; have f4_ := f1_.symm; have f5_ := f3_.symm; clear f1_ f2_ f3_; subst f4_; subst f5_))
                  have p314 : 0 ≤ (x10_2 : Int) := of_decide_eq_true (by first | (with_reducible assumption) | assumption)
                  have q314 : x10_2 < (t304.length : Int) := of_decide_eq_true (by first | (with_reducible assumption) | assumption)
                  obtain ⟨ad314, e314, hx314_0⟩ := Kd.at_int (Kd.R_reads' HO_8.out).2.2 x10_2 p314 q314
                  cases e314
                  replace p314 := eq_true p314
                  replace q314 := eq_true q314
                  have p315 : 0 ≤ (x10_2 : Int) := of_decide_eq_true (by first | (with_reducible assumption) | assumption)
                  have q315 : x10_2 < (t285.length : Int) := of_decide_eq_true (by first | (with_reducible assumption) | assumption)
                  obtain ⟨ad315, e315, hx315_0⟩ := Kd.at_int (Kd.R_reads' HO_5.out).2.2 x10_2 p315 q315
                  cases e315
                  replace p315 := eq_true p315
                  replace q315 := eq_true q315
                  refine start_ (n := 37) (S := fun w' => w'.cell? (ad314.add (x10_2).toNat) = some (.int .i64 (rd t304 x10_2)) ∧ w'.cell? (ad315.add (x10_2).toNat) = some (.int .i64 (rd t285 x10_2))) (ds := []) (bs 37 0) (by kernel_rfl) rfl (by kernel_rfl) ⟨hx314_0, hx315_0⟩ (fun hHeld => ?_); refine with_tabW laws_FnTaskKeysChange.tab15 laws_FnTaskKeysChange.bits15 (fun HT_ HW_ => ?_)
                  generalize wr.drew = w56 at HO_5 HO_8 HO_9 HB hx314_0 hx315_0 hHeld ⊢
                  refine pT_ HT_.out 0 68 (bs 37 1) ?_
                  refine pT_ HT_.out 1 69 (bs 37 3) ?_
                  refine pT_ HT_.out 2 70 (bs 37 7) ?_
                  refine pT_ HT_.out 3 71 (bs 37 15) ?_
                  refine pT_ HT_.out 4 72 (bs 37 31) ?_
                  refine pT_ HT_.out 5 73 (bs 37 63) ?_
                  refine pT_ HT_.out 6 74 (bs 37 127) ?_
                  refine one_ (i := 7) (N := some 75) (bs 37 255) rfl rfl (one_of HT_.out (by kernel_rfl)) (by decide) (fun K hK => ?_)
                  refine goes_ Tryd.func14 (by kernel_rfl) rfl #[.slice Ao58 t310.length co58, .int .i64 x10_2] (by rfl) rfl rfl (by (try simp only [List.map_toArray, List.map_cons, List.map_nil]); first | done | rfl | (simp only [List.length_drop, List.length_take]; rfl)) ?_
                  with_reducible refine (laws_isIn.calls k2 _ _ t310 x10_2 true _ ?side1 ?side2 A49.out).mono ?_
                  (case side1 => exact cw_ (Kd.R_reads' HO_9.out).2.2)
                  (case side2 => exact (Kd.R_reads' HO_9.out).2.1)
                  rintro e w' ⟨rfl, ⟨nd, rfl⟩⟩
                  refine ⟨_, rfl, ?_⟩
                  refine hK.out _ _ ⟨hHeld.1, hHeld.2⟩ (fun hHeld => ?_)
                  clear hK K
                  refine norm_ (a' := ?_) ?_ ?_
                  rotate_left
                  ·show Act.put _ (some 75) _ = _
                   simp only [Act.put, List.setIfInBounds_toArray, List.set_cons_zero, List.set_cons_succ, i64_w, i32_w]
                   rfl
                  refine pT_ HT_.out 8 76 (bs 37 511) ?_
                  refine pT_ HT_.out 9 77 (bs 37 1023) ?_
                  refine pU_ HT_.out 10 78 (bs 37 2047) ?_
                  refine pU_ HT_.out 11 79 (bs 37 4095) ?_
                  refine pU_ HT_.out 12 80 (bs 37 8191) ?_
                  refine pU_ HT_.out 13 81 (bs 37 16383) ?_
                  refine pU_ HT_.out 14 82 (bs 37 32767) ?_
                  refine pU_ HT_.out 15 83 (bs 37 65535) ?_
                  refine pU_ HT_.out 16 84 (bs 37 131071) ?_
                  refine pU_ HT_.out 17 85 (bs 37 262143) ?_
                  refine pU_ HT_.out 18 86 (bs 37 524287) ?_
                  refine pT_ HT_.out 19 87 (bs 37 1048575) ?_
                  refine pT_ HT_.out 20 88 (bs 37 2097151) ?_
                  refine pT_ HT_.out 21 89 (bs 37 4194303) ?_
                  refine pT_ HT_.out 22 90 (bs 37 8388607) ?_
                  refine pT_ HT_.out 23 91 (bs 37 16777215) ?_
                  refine pT_ HT_.out 24 92 (bs 37 33554431) ?_
                  refine pT_ HT_.out 25 93 (bs 37 67108863) ?_
                  refine pT_ HT_.out 26 94 (bs 37 134217727) ?_
                  refine pT_ HT_.out 27 95 (bs 37 268435455) ?_
                  refine pT_ HT_.out 28 96 (bs 37 536870911) ?_
                  refine pT_ HT_.out 30 98 (bs 37 1610612735) ?_
                  refine pT_ HT_.out 31 99 (bs 37 3758096383) ?_
                  refine pT_ HT_.out 32 100 (bs 37 8053063679) ?_
                  refine take_ (i := 29) (N := some 97) (v := ?_) (a' := ?_) (bs 37 8589934591) rfl rfl (take_ofW HT_.out HW_.out (by kernel_rfl)) (fun _ _ _ h => h) (Or.inl ⟨by rfl, ?_⟩) hHeld ?_ ?_
                  rotate_left
                  ·rintro w' ⟨s0, s1⟩
                   go_simp
                   with_reducible rfl
                  rotate_left
                  ·simp only [Act.put, List.setIfInBounds_toArray, List.set_cons_zero, List.set_cons_succ, i64_w, i32_w]
                   rfl
                  refine take_ (i := 33) (N := some 101) (v := ?_) (a' := ?_) (bs 37 17179869183) rfl rfl (take_ofW HT_.out HW_.out (by kernel_rfl)) (fun _ _ _ h => h) (Or.inl ⟨by rfl, ?_⟩) hHeld ?_ ?_
                  rotate_left
                  ·rintro w' ⟨s0, s1⟩
                   go_simp
                   with_reducible rfl
                  rotate_left
                  ·simp only [Act.put, List.setIfInBounds_toArray, List.set_cons_zero, List.set_cons_succ, i64_w, i32_w]
                   rfl
                  refine pT_ HT_.out 34 102 (bs 37 34359738367) ?_
                  refine pT_ HT_.out 35 103 (bs 37 68719476735) ?_
                  refine pT_ HT_.out 36 104 (bs 37 137438953471) ?_
                  refine done_ (done_of HT_.out (by kernel_rfl)) ?_
                  try go_wp2
                  go_ret
                  exact ⟨by first | rfl | (simp [errW_none, errW_some] <;> rfl) | (simp only [← hji27]; first | rfl | (simp [errW_none, errW_some] <;> rfl)) | (simp [*, errW_none, errW_some] <;> rfl), blw_⟩
                 ·rw [if_neg c54] at H
                  have c54b0 : ((rd t304 x10_2) == (rd t285 x10_2)) = false := beq_eq_false_iff_ne.mpr c54
                  have c54b1 : ((rd t304 x10_2) != (rd t285 x10_2)) = true := bne_iff_ne.mpr c54
                  have H' := Aside0.mk H
                  clear H
                  obtain ⟨Ao59, co59, eo59⟩ := Kd.R_slice HO_5.out
                  subst eo59
                  try go_wp2
                  have n0_ := Aside0.mk (Kd.R_drew HO_5.out)
                  have n1_ := Aside0.mk (Kd.R_drew HO_8.out)
                  have n2_ := Aside0.mk (Kd.R_drew HO_9.out)
                  have n3_ := Aside0.mk (below_drew1 HB.out)
                  clear HO_5
                  clear HO_8
                  clear HO_9
                  clear HB
                  have HO_5 := n0_
                  have HO_8 := n1_
                  have HO_9 := n2_
                  have HB := n3_
                  clear n0_ n1_ n2_ n3_
                  obtain ⟨Ao61, co61, eo61⟩ := Kd.R_slice HO_8.out
                  (first | subst eo61 | (injection eo61 with f1_ f2_ f3_; have f4_ := f1_.symm; have f5_ := f3_.symm; clear f1_ f2_ f3_; subst f4_; subst f5_))
                  obtain ⟨Ao62, co62, eo62⟩ := Kd.R_slice HO_9.out
                  (first | subst eo62 | (injection eo62 with f1_ f2_ f3_; have f4_ := f1_.symm; have f5_ := f3_.symm; clear f1_ f2_ f3_; subst f4_; subst f5_))
                  have p314 : 0 ≤ (x10_2 : Int) := of_decide_eq_true (by first | (with_reducible assumption) | assumption)
                  have q314 : x10_2 < (t304.length : Int) := of_decide_eq_true (by first | (with_reducible assumption) | assumption)
                  obtain ⟨ad314, e314, hx314_0⟩ := Kd.at_int (Kd.R_reads' HO_8.out).2.2 x10_2 p314 q314
                  cases e314
                  replace p314 := eq_true p314
                  replace q314 := eq_true q314
                  have p315 : 0 ≤ (x10_2 : Int) := of_decide_eq_true (by first | (with_reducible assumption) | assumption)
                  have q315 : x10_2 < (t285.length : Int) := of_decide_eq_true (by first | (with_reducible assumption) | assumption)
                  obtain ⟨ad315, e315, hx315_0⟩ := Kd.at_int (Kd.R_reads' HO_5.out).2.2 x10_2 p315 q315
                  cases e315
                  replace p315 := eq_true p315
                  replace q315 := eq_true q315
                  refine start_ (n := 37) (S := fun w' => w'.cell? (ad314.add (x10_2).toNat) = some (.int .i64 (rd t304 x10_2)) ∧ w'.cell? (ad315.add (x10_2).toNat) = some (.int .i64 (rd t285 x10_2))) (ds := []) (bs 37 0) (by kernel_rfl) rfl (by kernel_rfl) ⟨hx314_0, hx315_0⟩ (fun hHeld => ?_); refine with_tabW laws_FnTaskKeysChange.tab15 laws_FnTaskKeysChange.bits15 (fun HT_ HW_ => ?_)
                  generalize wr.drew = w60 at HO_5 HO_8 HO_9 HB hx314_0 hx315_0 hHeld ⊢
                  refine pT_ HT_.out 0 68 (bs 37 1) ?_
                  refine pT_ HT_.out 1 69 (bs 37 3) ?_
                  refine pT_ HT_.out 2 70 (bs 37 7) ?_
                  refine pT_ HT_.out 3 71 (bs 37 15) ?_
                  refine pT_ HT_.out 4 72 (bs 37 31) ?_
                  refine pT_ HT_.out 5 73 (bs 37 63) ?_
                  refine pT_ HT_.out 6 74 (bs 37 127) ?_
                  refine one_ (i := 7) (N := some 75) (bs 37 255) rfl rfl (one_of HT_.out (by kernel_rfl)) (by decide) (fun K hK => ?_)
                  refine goes_ Tryd.func14 (by kernel_rfl) rfl #[.slice Ao62 t310.length co62, .int .i64 x10_2] (by rfl) rfl rfl (by (try simp only [List.map_toArray, List.map_cons, List.map_nil]); first | done | rfl | (simp only [List.length_drop, List.length_take]; rfl)) ?_
                  with_reducible refine (laws_isIn.calls k2 _ _ t310 x10_2 true _ ?side1 ?side2 A49.out).mono ?_
                  (case side1 => exact cw_ (Kd.R_reads' HO_9.out).2.2)
                  (case side2 => exact (Kd.R_reads' HO_9.out).2.1)
                  rintro e w' ⟨rfl, ⟨nd, rfl⟩⟩
                  refine ⟨_, rfl, ?_⟩
                  refine hK.out _ _ ⟨hHeld.1, hHeld.2⟩ (fun hHeld => ?_)
                  clear hK K
                  refine norm_ (a' := ?_) ?_ ?_
                  rotate_left
                  ·show Act.put _ (some 75) _ = _
                   simp only [Act.put, List.setIfInBounds_toArray, List.set_cons_zero, List.set_cons_succ, i64_w, i32_w]
                   rfl
                  refine pT_ HT_.out 8 76 (bs 37 511) ?_
                  refine pT_ HT_.out 9 77 (bs 37 1023) ?_
                  refine pU_ HT_.out 10 78 (bs 37 2047) ?_
                  refine pU_ HT_.out 11 79 (bs 37 4095) ?_
                  refine pU_ HT_.out 12 80 (bs 37 8191) ?_
                  refine pU_ HT_.out 13 81 (bs 37 16383) ?_
                  refine pU_ HT_.out 14 82 (bs 37 32767) ?_
                  refine pU_ HT_.out 15 83 (bs 37 65535) ?_
                  refine pU_ HT_.out 16 84 (bs 37 131071) ?_
                  refine pU_ HT_.out 17 85 (bs 37 262143) ?_
                  refine pU_ HT_.out 18 86 (bs 37 524287) ?_
                  refine pT_ HT_.out 19 87 (bs 37 1048575) ?_
                  refine pT_ HT_.out 20 88 (bs 37 2097151) ?_
                  refine pT_ HT_.out 21 89 (bs 37 4194303) ?_
                  refine pT_ HT_.out 22 90 (bs 37 8388607) ?_
                  refine pT_ HT_.out 23 91 (bs 37 16777215) ?_
                  refine pT_ HT_.out 24 92 (bs 37 33554431) ?_
                  refine pT_ HT_.out 25 93 (bs 37 67108863) ?_
                  refine pT_ HT_.out 26 94 (bs 37 134217727) ?_
                  refine pT_ HT_.out 27 95 (bs 37 268435455) ?_
                  refine pT_ HT_.out 28 96 (bs 37 536870911) ?_
                  refine pT_ HT_.out 30 98 (bs 37 1610612735) ?_
                  refine pT_ HT_.out 31 99 (bs 37 3758096383) ?_
                  refine pT_ HT_.out 32 100 (bs 37 8053063679) ?_
                  refine take_ (i := 29) (N := some 97) (v := ?_) (a' := ?_) (bs 37 8589934591) rfl rfl (take_ofW HT_.out HW_.out (by kernel_rfl)) (fun _ _ _ h => h) (Or.inl ⟨by rfl, ?_⟩) hHeld ?_ ?_
                  rotate_left
                  ·rintro w' ⟨s0, s1⟩
                   go_simp
                   with_reducible rfl
                  rotate_left
                  ·simp only [Act.put, List.setIfInBounds_toArray, List.set_cons_zero, List.set_cons_succ, i64_w, i32_w]
                   rfl
                  refine take_ (i := 33) (N := some 101) (v := ?_) (a' := ?_) (bs 37 17179869183) rfl rfl (take_ofW HT_.out HW_.out (by kernel_rfl)) (fun _ _ _ h => h) (Or.inl ⟨by rfl, ?_⟩) hHeld ?_ ?_
                  rotate_left
                  ·rintro w' ⟨s0, s1⟩
                   go_simp
                   with_reducible rfl
                  rotate_left
                  ·simp only [Act.put, List.setIfInBounds_toArray, List.set_cons_zero, List.set_cons_succ, i64_w, i32_w]
                   rfl
                  refine pT_ HT_.out 34 102 (bs 37 34359738367) ?_
                  refine pT_ HT_.out 35 103 (bs 37 68719476735) ?_
                  refine pT_ HT_.out 36 104 (bs 37 137438953471) ?_
                  refine done_ (done_of HT_.out (by kernel_rfl)) ?_
                  try go_wp2
                  go_roundg k2
                  case measure => have := HJ4.out; have := HK2.out; omega
                  case rel => exact ⟨(wrap64 (x10_2 + 1)), (by first | rfl | (simp; done) | (simp [*]; done)), H', ⟨by have := HJ4.out; have := HK2.out; omega⟩, ⟨rw_ HO_5.out⟩, ⟨rw_ HO_8.out⟩, ⟨rw_ HO_9.out⟩, ⟨blw_⟩⟩
                ·rw [if_neg c53] at H
                 exact absurd H (by simp)
               ·rw [if_neg c52] at H
                exact absurd H (by simp)
              ·rw [if_neg c51] at H
               have c51b0 : (x10_2 == ji27) = false := beq_eq_false_iff_ne.mpr c51
               have c51b1 : (x10_2 != ji27) = true := bne_iff_ne.mpr c51
               have H' := Aside0.mk H
               clear H
               obtain ⟨Ao63, co63, eo63⟩ := Kd.R_slice HO_5.out
               subst eo63
               try go_wp2
               have n0_ := Aside0.mk (Kd.R_drew HO_5.out)
               have n1_ := Aside0.mk (Kd.R_drew HO_8.out)
               have n2_ := Aside0.mk (Kd.R_drew HO_9.out)
               have n3_ := Aside0.mk (below_drew1 HB.out)
               clear HO_5
               clear HO_8
               clear HO_9
               clear HB
               have HO_5 := n0_
               have HO_8 := n1_
               have HO_9 := n2_
               have HB := n3_
               clear n0_ n1_ n2_ n3_
               obtain ⟨Ao65, co65, eo65⟩ := Kd.R_slice HO_8.out
               (first | subst eo65 | (injection eo65 with f1_ f2_ f3_; have f4_ := f1_.symm; have f5_ := f3_.symm; clear f1_ f2_ f3_; subst f4_; subst f5_))
               obtain ⟨Ao66, co66, eo66⟩ := Kd.R_slice HO_9.out
               (first | subst eo66 | (injection eo66 with f1_ f2_ f3_; have f4_ := f1_.symm; have f5_ := f3_.symm; clear f1_ f2_ f3_; subst f4_; subst f5_))
               refine start_ (n := 37) (S := fun w' => True) (ds := []) (bs 37 0) (by kernel_rfl) rfl (by kernel_rfl) trivial (fun hHeld => ?_); refine with_tabW laws_FnTaskKeysChange.tab15 laws_FnTaskKeysChange.bits15 (fun HT_ HW_ => ?_)
               generalize wr.drew = w64 at HO_5 HO_8 HO_9 HB hHeld ⊢
               refine pT_ HT_.out 0 68 (bs 37 1) ?_
               refine pT_ HT_.out 1 69 (bs 37 3) ?_
               refine pT_ HT_.out 2 70 (bs 37 7) ?_
               refine pT_ HT_.out 3 71 (bs 37 15) ?_
               refine pT_ HT_.out 4 72 (bs 37 31) ?_
               refine pT_ HT_.out 5 73 (bs 37 63) ?_
               refine pT_ HT_.out 6 74 (bs 37 127) ?_
               refine one_ (i := 7) (N := some 75) (bs 37 255) rfl rfl (one_of HT_.out (by kernel_rfl)) (by decide) (fun K hK => ?_)
               refine goes_ Tryd.func14 (by kernel_rfl) rfl #[.slice Ao66 t310.length co66, .int .i64 x10_2] (by rfl) rfl rfl (by (try simp only [List.map_toArray, List.map_cons, List.map_nil]); first | done | rfl | (simp only [List.length_drop, List.length_take]; rfl)) ?_
               with_reducible refine (laws_isIn.calls k2 _ _ t310 x10_2 true _ ?side1 ?side2 A49.out).mono ?_
               (case side1 => exact cw_ (Kd.R_reads' HO_9.out).2.2)
               (case side2 => exact (Kd.R_reads' HO_9.out).2.1)
               rintro e w' ⟨rfl, ⟨nd, rfl⟩⟩
               refine ⟨_, rfl, ?_⟩
               refine hK.out _ _ trivial (fun hHeld => ?_)
               clear hK K
               refine norm_ (a' := ?_) ?_ ?_
               rotate_left
               ·show Act.put _ (some 75) _ = _
                simp only [Act.put, List.setIfInBounds_toArray, List.set_cons_zero, List.set_cons_succ, i64_w, i32_w]
                rfl
               refine pT_ HT_.out 8 76 (bs 37 511) ?_
               refine pT_ HT_.out 9 77 (bs 37 1023) ?_
               refine pU_ HT_.out 10 78 (bs 37 2047) ?_
               refine pU_ HT_.out 11 79 (bs 37 4095) ?_
               refine pU_ HT_.out 12 80 (bs 37 8191) ?_
               refine pU_ HT_.out 13 81 (bs 37 16383) ?_
               refine pU_ HT_.out 14 82 (bs 37 32767) ?_
               refine pU_ HT_.out 15 83 (bs 37 65535) ?_
               refine pU_ HT_.out 16 84 (bs 37 131071) ?_
               refine pU_ HT_.out 17 85 (bs 37 262143) ?_
               refine pU_ HT_.out 18 86 (bs 37 524287) ?_
               refine pT_ HT_.out 19 87 (bs 37 1048575) ?_
               refine pT_ HT_.out 20 88 (bs 37 2097151) ?_
               refine pT_ HT_.out 21 89 (bs 37 4194303) ?_
               refine pT_ HT_.out 22 90 (bs 37 8388607) ?_
               refine pT_ HT_.out 23 91 (bs 37 16777215) ?_
               refine pT_ HT_.out 24 92 (bs 37 33554431) ?_
               refine pT_ HT_.out 25 93 (bs 37 67108863) ?_
               refine pU_ HT_.out 26 94 (bs 37 134217727) ?_
               refine pU_ HT_.out 27 95 (bs 37 268435455) ?_
               refine pU_ HT_.out 28 96 (bs 37 536870911) ?_
               refine pU_ HT_.out 29 97 (bs 37 1073741823) ?_
               refine pU_ HT_.out 30 98 (bs 37 2147483647) ?_
               refine pU_ HT_.out 31 99 (bs 37 4294967295) ?_
               refine pU_ HT_.out 32 100 (bs 37 8589934591) ?_
               refine pU_ HT_.out 33 101 (bs 37 17179869183) ?_
               refine pU_ HT_.out 34 102 (bs 37 34359738367) ?_
               refine pT_ HT_.out 35 103 (bs 37 68719476735) ?_
               refine pT_ HT_.out 36 104 (bs 37 137438953471) ?_
               refine done_ (done_of HT_.out (by kernel_rfl)) ?_
               try go_wp2
               go_roundg k2
               case measure => have := HJ4.out; have := HK2.out; omega
               case rel => exact ⟨(wrap64 (x10_2 + 1)), (by first | rfl | (simp; done) | (simp [*]; done)), H', ⟨by have := HJ4.out; have := HK2.out; omega⟩, ⟨rw_ HO_5.out⟩, ⟨rw_ HO_8.out⟩, ⟨rw_ HO_9.out⟩, ⟨blw_⟩⟩
             ·replace c50 := Bool.eq_false_iff.mpr c50
              subst c50
              have H1 : (if 0 ≤ x10_2 then (if x10_2 < (t304.length : Int) then (if (rd t304 x10_2) = (rd t285 x10_2) then (if x10_2 = ji27 then (some false) else (laws_FnTaskKeysChange.l0 k2 t285 ji27 t304 t310 (wrap64 (x10_2 + 1)))) else (some false)) else (none)) else (none)) = some r := by rw [if_neg (show ¬ (false = true) by decide)] at H; exact H
              clear H
              have H := H1
              clear H1
              by_cases c67 : 0 ≤ x10_2
              ·rw [if_pos c67] at H
               have c67b0 : decide (0 ≤ x10_2) = true := decide_eq_true c67
               clear c67
               by_cases c68 : x10_2 < (t304.length : Int)
               ·rw [if_pos c68] at H
                have c68b0 : decide (x10_2 < (t304.length : Int)) = true := decide_eq_true c68
                clear c68
                by_cases c69 : (rd t304 x10_2) = (rd t285 x10_2)
                ·rw [if_pos c69] at H
                 have c69b0 : ((rd t304 x10_2) == (rd t285 x10_2)) = true := beq_iff_eq.mpr c69
                 have c69b1 : ((rd t304 x10_2) != (rd t285 x10_2)) = false := bne_eq_false_iff_eq.mpr c69
                 clear c69
                 by_cases c70 : x10_2 = ji27
                 ·rw [if_pos c70] at H
                  have c70b0 : (x10_2 == ji27) = true := beq_iff_eq.mpr c70
                  have c70b1 : (x10_2 != ji27) = false := bne_eq_false_iff_eq.mpr c70
                  clear c70
                  obtain rfl := Option.some.inj H
                  obtain ⟨Ao71, co71, eo71⟩ := Kd.R_slice HO_5.out
                  subst eo71
                  try go_wp2
                  have n0_ := Aside0.mk (Kd.R_drew HO_5.out)
                  have n1_ := Aside0.mk (Kd.R_drew HO_8.out)
                  have n2_ := Aside0.mk (Kd.R_drew HO_9.out)
                  have n3_ := Aside0.mk (below_drew1 HB.out)
                  clear HO_5
                  clear HO_8
                  clear HO_9
                  clear HB
                  have HO_5 := n0_
                  have HO_8 := n1_
                  have HO_9 := n2_
                  have HB := n3_
                  clear n0_ n1_ n2_ n3_
                  obtain ⟨Ao73, co73, eo73⟩ := Kd.R_slice HO_8.out
                  (first | subst eo73 | (injection eo73 with f1_ f2_ f3_; have f4_ := f1_.symm; have f5_ := f3_.symm; clear f1_ f2_ f3_; subst f4_; subst f5_))
                  obtain ⟨Ao74, co74, eo74⟩ := Kd.R_slice HO_9.out
                  (first | subst eo74 | (injection eo74 with f1_ f2_ f3_; have f4_ := f1_.symm; have f5_ := f3_.symm; clear f1_ f2_ f3_; subst f4_; subst f5_))
                  have p316 : 0 ≤ (x10_2 : Int) := of_decide_eq_true (by first | (with_reducible assumption) | assumption)
                  have q316 : x10_2 < (t304.length : Int) := of_decide_eq_true (by first | (with_reducible assumption) | assumption)
                  obtain ⟨ad316, e316, hx316_0⟩ := Kd.at_int (Kd.R_reads' HO_8.out).2.2 x10_2 p316 q316
                  cases e316
                  replace p316 := eq_true p316
                  replace q316 := eq_true q316
                  have p317 : 0 ≤ (x10_2 : Int) := of_decide_eq_true (by first | (with_reducible assumption) | assumption)
                  have q317 : x10_2 < (t285.length : Int) := of_decide_eq_true (by first | (with_reducible assumption) | assumption)
                  obtain ⟨ad317, e317, hx317_0⟩ := Kd.at_int (Kd.R_reads' HO_5.out).2.2 x10_2 p317 q317
                  cases e317
                  replace p317 := eq_true p317
                  replace q317 := eq_true q317
                  have p318 : 0 ≤ (x10_2 : Int) := of_decide_eq_true (by first | (with_reducible assumption) | assumption)
                  have q318 : x10_2 < (t304.length : Int) := of_decide_eq_true (by first | (with_reducible assumption) | assumption)
                  obtain ⟨ad318, e318, hx318_0⟩ := Kd.at_int (Kd.R_reads' HO_8.out).2.2 x10_2 p318 q318
                  obtain rfl : ad316 = ad318 := (by injection e318)
                  replace p318 := eq_true p318
                  replace q318 := eq_true q318
                  have p319 : 0 ≤ (x10_2 : Int) := of_decide_eq_true (by first | (with_reducible assumption) | assumption)
                  have q319 : x10_2 < (t285.length : Int) := of_decide_eq_true (by first | (with_reducible assumption) | assumption)
                  obtain ⟨ad319, e319, hx319_0⟩ := Kd.at_int (Kd.R_reads' HO_5.out).2.2 x10_2 p319 q319
                  obtain rfl : ad317 = ad319 := (by injection e319)
                  replace p319 := eq_true p319
                  replace q319 := eq_true q319
                  refine start_ (n := 37) (S := fun w' => w'.cell? (ad316.add (x10_2).toNat) = some (.int .i64 (rd t304 x10_2)) ∧ w'.cell? (ad317.add (x10_2).toNat) = some (.int .i64 (rd t285 x10_2)) ∧ w'.cell? (ad316.add (x10_2).toNat) = some (.int .i64 (rd t304 x10_2)) ∧ w'.cell? (ad317.add (x10_2).toNat) = some (.int .i64 (rd t285 x10_2))) (ds := []) (bs 37 0) (by kernel_rfl) rfl (by kernel_rfl) ⟨hx316_0, hx317_0, hx318_0, hx319_0⟩ (fun hHeld => ?_); refine with_tabW laws_FnTaskKeysChange.tab15 laws_FnTaskKeysChange.bits15 (fun HT_ HW_ => ?_)
                  generalize wr.drew = w72 at HO_5 HO_8 HO_9 HB hx316_0 hx317_0 hx318_0 hx319_0 hHeld ⊢
                  refine pT_ HT_.out 0 68 (bs 37 1) ?_
                  refine pT_ HT_.out 1 69 (bs 37 3) ?_
                  refine pT_ HT_.out 2 70 (bs 37 7) ?_
                  refine pT_ HT_.out 3 71 (bs 37 15) ?_
                  refine pT_ HT_.out 4 72 (bs 37 31) ?_
                  refine pT_ HT_.out 5 73 (bs 37 63) ?_
                  refine pT_ HT_.out 6 74 (bs 37 127) ?_
                  refine one_ (i := 7) (N := some 75) (bs 37 255) rfl rfl (one_of HT_.out (by kernel_rfl)) (by decide) (fun K hK => ?_)
                  refine goes_ Tryd.func14 (by kernel_rfl) rfl #[.slice Ao74 t310.length co74, .int .i64 x10_2] (by rfl) rfl rfl (by (try simp only [List.map_toArray, List.map_cons, List.map_nil]); first | done | rfl | (simp only [List.length_drop, List.length_take]; rfl)) ?_
                  with_reducible refine (laws_isIn.calls k2 _ _ t310 x10_2 false _ ?side1 ?side2 A49.out).mono ?_
                  (case side1 => exact cw_ (Kd.R_reads' HO_9.out).2.2)
                  (case side2 => exact (Kd.R_reads' HO_9.out).2.1)
                  rintro e w' ⟨rfl, ⟨nd, rfl⟩⟩
                  refine ⟨_, rfl, ?_⟩
                  refine hK.out _ _ ⟨hHeld.1, hHeld.2.1, hHeld.2.2.1, hHeld.2.2.2⟩ (fun hHeld => ?_)
                  clear hK K
                  refine norm_ (a' := ?_) ?_ ?_
                  rotate_left
                  ·show Act.put _ (some 75) _ = _
                   simp only [Act.put, List.setIfInBounds_toArray, List.set_cons_zero, List.set_cons_succ, i64_w, i32_w]
                   rfl
                  refine pT_ HT_.out 8 76 (bs 37 511) ?_
                  refine pT_ HT_.out 9 77 (bs 37 1023) ?_
                  refine pT_ HT_.out 10 78 (bs 37 2047) ?_
                  refine pT_ HT_.out 11 79 (bs 37 4095) ?_
                  refine pT_ HT_.out 12 80 (bs 37 8191) ?_
                  refine pT_ HT_.out 14 82 (bs 37 24575) ?_
                  refine pT_ HT_.out 15 83 (bs 37 57343) ?_
                  refine pT_ HT_.out 16 84 (bs 37 122879) ?_
                  refine take_ (i := 13) (N := some 81) (v := ?_) (a' := ?_) (bs 37 131071) rfl rfl (take_ofW HT_.out HW_.out (by kernel_rfl)) (fun _ _ _ h => h) (Or.inl ⟨by rfl, ?_⟩) hHeld ?_ ?_
                  rotate_left
                  ·rintro w' ⟨s0, s1, s2, s3⟩
                   go_simp
                   with_reducible rfl
                  rotate_left
                  ·simp only [Act.put, List.setIfInBounds_toArray, List.set_cons_zero, List.set_cons_succ, i64_w, i32_w]
                   rfl
                  refine take_ (i := 17) (N := some 85) (v := ?_) (a' := ?_) (bs 37 262143) rfl rfl (take_ofW HT_.out HW_.out (by kernel_rfl)) (fun _ _ _ h => h) (Or.inl ⟨by rfl, ?_⟩) hHeld ?_ ?_
                  rotate_left
                  ·rintro w' ⟨s0, s1, s2, s3⟩
                   go_simp
                   with_reducible rfl
                  rotate_left
                  ·simp only [Act.put, List.setIfInBounds_toArray, List.set_cons_zero, List.set_cons_succ, i64_w, i32_w]
                   rfl
                  refine pT_ HT_.out 18 86 (bs 37 524287) ?_
                  refine pT_ HT_.out 19 87 (bs 37 1048575) ?_
                  refine pT_ HT_.out 20 88 (bs 37 2097151) ?_
                  refine pT_ HT_.out 21 89 (bs 37 4194303) ?_
                  refine pT_ HT_.out 22 90 (bs 37 8388607) ?_
                  refine pT_ HT_.out 23 91 (bs 37 16777215) ?_
                  refine pT_ HT_.out 24 92 (bs 37 33554431) ?_
                  refine pT_ HT_.out 25 93 (bs 37 67108863) ?_
                  refine pT_ HT_.out 26 94 (bs 37 134217727) ?_
                  refine pT_ HT_.out 27 95 (bs 37 268435455) ?_
                  refine pT_ HT_.out 28 96 (bs 37 536870911) ?_
                  refine pT_ HT_.out 30 98 (bs 37 1610612735) ?_
                  refine pT_ HT_.out 31 99 (bs 37 3758096383) ?_
                  refine pT_ HT_.out 32 100 (bs 37 8053063679) ?_
                  refine take_ (i := 29) (N := some 97) (v := ?_) (a' := ?_) (bs 37 8589934591) rfl rfl (take_ofW HT_.out HW_.out (by kernel_rfl)) (fun _ _ _ h => h) (Or.inl ⟨by rfl, ?_⟩) hHeld ?_ ?_
                  rotate_left
                  ·rintro w' ⟨s0, s1, s2, s3⟩
                   go_simp
                   with_reducible rfl
                  rotate_left
                  ·simp only [Act.put, List.setIfInBounds_toArray, List.set_cons_zero, List.set_cons_succ, i64_w, i32_w]
                   rfl
                  refine take_ (i := 33) (N := some 101) (v := ?_) (a' := ?_) (bs 37 17179869183) rfl rfl (take_ofW HT_.out HW_.out (by kernel_rfl)) (fun _ _ _ h => h) (Or.inl ⟨by rfl, ?_⟩) hHeld ?_ ?_
                  rotate_left
                  ·rintro w' ⟨s0, s1, s2, s3⟩
                   go_simp
                   with_reducible rfl
                  rotate_left
                  ·simp only [Act.put, List.setIfInBounds_toArray, List.set_cons_zero, List.set_cons_succ, i64_w, i32_w]
                   rfl
                  refine pT_ HT_.out 34 102 (bs 37 34359738367) ?_
                  refine pT_ HT_.out 35 103 (bs 37 68719476735) ?_
                  refine pT_ HT_.out 36 104 (bs 37 137438953471) ?_
                  refine done_ (done_of HT_.out (by kernel_rfl)) ?_
                  try go_wp2
                  go_ret
                  exact ⟨by first | rfl | (simp [errW_none, errW_some] <;> rfl) | (simp only [← hji27]; first | rfl | (simp [errW_none, errW_some] <;> rfl)) | (simp [*, errW_none, errW_some] <;> rfl), blw_⟩
                 ·rw [if_neg c70] at H
                  have c70b0 : (x10_2 == ji27) = false := beq_eq_false_iff_ne.mpr c70
                  have c70b1 : (x10_2 != ji27) = true := bne_iff_ne.mpr c70
                  have H' := Aside0.mk H
                  clear H
                  obtain ⟨Ao75, co75, eo75⟩ := Kd.R_slice HO_5.out
                  subst eo75
                  try go_wp2
                  have n0_ := Aside0.mk (Kd.R_drew HO_5.out)
                  have n1_ := Aside0.mk (Kd.R_drew HO_8.out)
                  have n2_ := Aside0.mk (Kd.R_drew HO_9.out)
                  have n3_ := Aside0.mk (below_drew1 HB.out)
                  clear HO_5
                  clear HO_8
                  clear HO_9
                  clear HB
                  have HO_5 := n0_
                  have HO_8 := n1_
                  have HO_9 := n2_
                  have HB := n3_
                  clear n0_ n1_ n2_ n3_
                  obtain ⟨Ao77, co77, eo77⟩ := Kd.R_slice HO_8.out
                  (first | subst eo77 | (injection eo77 with f1_ f2_ f3_; have f4_ := f1_.symm; have f5_ := f3_.symm; clear f1_ f2_ f3_; subst f4_; subst f5_))
                  obtain ⟨Ao78, co78, eo78⟩ := Kd.R_slice HO_9.out
                  (first | subst eo78 | (injection eo78 with f1_ f2_ f3_; have f4_ := f1_.symm; have f5_ := f3_.symm; clear f1_ f2_ f3_; subst f4_; subst f5_))
                  have p316 : 0 ≤ (x10_2 : Int) := of_decide_eq_true (by first | (with_reducible assumption) | assumption)
                  have q316 : x10_2 < (t304.length : Int) := of_decide_eq_true (by first | (with_reducible assumption) | assumption)
                  obtain ⟨ad316, e316, hx316_0⟩ := Kd.at_int (Kd.R_reads' HO_8.out).2.2 x10_2 p316 q316
                  cases e316
                  replace p316 := eq_true p316
                  replace q316 := eq_true q316
                  have p317 : 0 ≤ (x10_2 : Int) := of_decide_eq_true (by first | (with_reducible assumption) | assumption)
                  have q317 : x10_2 < (t285.length : Int) := of_decide_eq_true (by first | (with_reducible assumption) | assumption)
                  obtain ⟨ad317, e317, hx317_0⟩ := Kd.at_int (Kd.R_reads' HO_5.out).2.2 x10_2 p317 q317
                  cases e317
                  replace p317 := eq_true p317
                  replace q317 := eq_true q317
                  refine start_ (n := 37) (S := fun w' => w'.cell? (ad316.add (x10_2).toNat) = some (.int .i64 (rd t304 x10_2)) ∧ w'.cell? (ad317.add (x10_2).toNat) = some (.int .i64 (rd t285 x10_2))) (ds := []) (bs 37 0) (by kernel_rfl) rfl (by kernel_rfl) ⟨hx316_0, hx317_0⟩ (fun hHeld => ?_); refine with_tabW laws_FnTaskKeysChange.tab15 laws_FnTaskKeysChange.bits15 (fun HT_ HW_ => ?_)
                  generalize wr.drew = w76 at HO_5 HO_8 HO_9 HB hx316_0 hx317_0 hHeld ⊢
                  refine pT_ HT_.out 0 68 (bs 37 1) ?_
                  refine pT_ HT_.out 1 69 (bs 37 3) ?_
                  refine pT_ HT_.out 2 70 (bs 37 7) ?_
                  refine pT_ HT_.out 3 71 (bs 37 15) ?_
                  refine pT_ HT_.out 4 72 (bs 37 31) ?_
                  refine pT_ HT_.out 5 73 (bs 37 63) ?_
                  refine pT_ HT_.out 6 74 (bs 37 127) ?_
                  refine one_ (i := 7) (N := some 75) (bs 37 255) rfl rfl (one_of HT_.out (by kernel_rfl)) (by decide) (fun K hK => ?_)
                  refine goes_ Tryd.func14 (by kernel_rfl) rfl #[.slice Ao78 t310.length co78, .int .i64 x10_2] (by rfl) rfl rfl (by (try simp only [List.map_toArray, List.map_cons, List.map_nil]); first | done | rfl | (simp only [List.length_drop, List.length_take]; rfl)) ?_
                  with_reducible refine (laws_isIn.calls k2 _ _ t310 x10_2 false _ ?side1 ?side2 A49.out).mono ?_
                  (case side1 => exact cw_ (Kd.R_reads' HO_9.out).2.2)
                  (case side2 => exact (Kd.R_reads' HO_9.out).2.1)
                  rintro e w' ⟨rfl, ⟨nd, rfl⟩⟩
                  refine ⟨_, rfl, ?_⟩
                  refine hK.out _ _ ⟨hHeld.1, hHeld.2⟩ (fun hHeld => ?_)
                  clear hK K
                  refine norm_ (a' := ?_) ?_ ?_
                  rotate_left
                  ·show Act.put _ (some 75) _ = _
                   simp only [Act.put, List.setIfInBounds_toArray, List.set_cons_zero, List.set_cons_succ, i64_w, i32_w]
                   rfl
                  refine pT_ HT_.out 8 76 (bs 37 511) ?_
                  refine pT_ HT_.out 9 77 (bs 37 1023) ?_
                  refine pT_ HT_.out 10 78 (bs 37 2047) ?_
                  refine pT_ HT_.out 11 79 (bs 37 4095) ?_
                  refine pT_ HT_.out 12 80 (bs 37 8191) ?_
                  refine pT_ HT_.out 14 82 (bs 37 24575) ?_
                  refine pT_ HT_.out 15 83 (bs 37 57343) ?_
                  refine pT_ HT_.out 16 84 (bs 37 122879) ?_
                  refine take_ (i := 13) (N := some 81) (v := ?_) (a' := ?_) (bs 37 131071) rfl rfl (take_ofW HT_.out HW_.out (by kernel_rfl)) (fun _ _ _ h => h) (Or.inl ⟨by rfl, ?_⟩) hHeld ?_ ?_
                  rotate_left
                  ·rintro w' ⟨s0, s1⟩
                   go_simp
                   with_reducible rfl
                  rotate_left
                  ·simp only [Act.put, List.setIfInBounds_toArray, List.set_cons_zero, List.set_cons_succ, i64_w, i32_w]
                   rfl
                  refine take_ (i := 17) (N := some 85) (v := ?_) (a' := ?_) (bs 37 262143) rfl rfl (take_ofW HT_.out HW_.out (by kernel_rfl)) (fun _ _ _ h => h) (Or.inl ⟨by rfl, ?_⟩) hHeld ?_ ?_
                  rotate_left
                  ·rintro w' ⟨s0, s1⟩
                   go_simp
                   with_reducible rfl
                  rotate_left
                  ·simp only [Act.put, List.setIfInBounds_toArray, List.set_cons_zero, List.set_cons_succ, i64_w, i32_w]
                   rfl
                  refine pT_ HT_.out 18 86 (bs 37 524287) ?_
                  refine pT_ HT_.out 19 87 (bs 37 1048575) ?_
                  refine pT_ HT_.out 20 88 (bs 37 2097151) ?_
                  refine pT_ HT_.out 21 89 (bs 37 4194303) ?_
                  refine pT_ HT_.out 22 90 (bs 37 8388607) ?_
                  refine pT_ HT_.out 23 91 (bs 37 16777215) ?_
                  refine pT_ HT_.out 24 92 (bs 37 33554431) ?_
                  refine pT_ HT_.out 25 93 (bs 37 67108863) ?_
                  refine pU_ HT_.out 26 94 (bs 37 134217727) ?_
                  refine pU_ HT_.out 27 95 (bs 37 268435455) ?_
                  refine pU_ HT_.out 28 96 (bs 37 536870911) ?_
                  refine pU_ HT_.out 29 97 (bs 37 1073741823) ?_
                  refine pU_ HT_.out 30 98 (bs 37 2147483647) ?_
                  refine pU_ HT_.out 31 99 (bs 37 4294967295) ?_
                  refine pU_ HT_.out 32 100 (bs 37 8589934591) ?_
                  refine pU_ HT_.out 33 101 (bs 37 17179869183) ?_
                  refine pU_ HT_.out 34 102 (bs 37 34359738367) ?_
                  refine pT_ HT_.out 35 103 (bs 37 68719476735) ?_
                  refine pT_ HT_.out 36 104 (bs 37 137438953471) ?_
                  refine done_ (done_of HT_.out (by kernel_rfl)) ?_
                  try go_wp2
                  go_roundg k2
                  case measure => have := HJ4.out; have := HK2.out; omega
                  case rel => exact ⟨(wrap64 (x10_2 + 1)), (by first | rfl | (simp; done) | (simp [*]; done)), H', ⟨by have := HJ4.out; have := HK2.out; omega⟩, ⟨rw_ HO_5.out⟩, ⟨rw_ HO_8.out⟩, ⟨rw_ HO_9.out⟩, ⟨blw_⟩⟩
                ·rw [if_neg c69] at H
                 have c69b0 : ((rd t304 x10_2) == (rd t285 x10_2)) = false := beq_eq_false_iff_ne.mpr c69
                 have c69b1 : ((rd t304 x10_2) != (rd t285 x10_2)) = true := bne_iff_ne.mpr c69
                 obtain rfl := Option.some.inj H
                 obtain ⟨Ao79, co79, eo79⟩ := Kd.R_slice HO_5.out
                 subst eo79
                 try go_wp2
                 have n0_ := Aside0.mk (Kd.R_drew HO_5.out)
                 have n1_ := Aside0.mk (Kd.R_drew HO_8.out)
                 have n2_ := Aside0.mk (Kd.R_drew HO_9.out)
                 have n3_ := Aside0.mk (below_drew1 HB.out)
                 clear HO_5
                 clear HO_8
                 clear HO_9
                 clear HB
                 have HO_5 := n0_
                 have HO_8 := n1_
                 have HO_9 := n2_
                 have HB := n3_
                 clear n0_ n1_ n2_ n3_
                 obtain ⟨Ao81, co81, eo81⟩ := Kd.R_slice HO_8.out
                 (first | subst eo81 | (injection eo81 with f1_ f2_ f3_; have f4_ := f1_.symm; have f5_ := f3_.symm; clear f1_ f2_ f3_; subst f4_; subst f5_))
                 obtain ⟨Ao82, co82, eo82⟩ := Kd.R_slice HO_9.out
                 (first | subst eo82 | (injection eo82 with f1_ f2_ f3_; have f4_ := f1_.symm; have f5_ := f3_.symm; clear f1_ f2_ f3_; subst f4_; subst f5_))
                 have p316 : 0 ≤ (x10_2 : Int) := of_decide_eq_true (by first | (with_reducible assumption) | assumption)
                 have q316 : x10_2 < (t304.length : Int) := of_decide_eq_true (by first | (with_reducible assumption) | assumption)
                 obtain ⟨ad316, e316, hx316_0⟩ := Kd.at_int (Kd.R_reads' HO_8.out).2.2 x10_2 p316 q316
                 cases e316
                 replace p316 := eq_true p316
                 replace q316 := eq_true q316
                 have p317 : 0 ≤ (x10_2 : Int) := of_decide_eq_true (by first | (with_reducible assumption) | assumption)
                 have q317 : x10_2 < (t285.length : Int) := of_decide_eq_true (by first | (with_reducible assumption) | assumption)
                 obtain ⟨ad317, e317, hx317_0⟩ := Kd.at_int (Kd.R_reads' HO_5.out).2.2 x10_2 p317 q317
                 cases e317
                 replace p317 := eq_true p317
                 replace q317 := eq_true q317
                 refine start_ (n := 37) (S := fun w' => w'.cell? (ad316.add (x10_2).toNat) = some (.int .i64 (rd t304 x10_2)) ∧ w'.cell? (ad317.add (x10_2).toNat) = some (.int .i64 (rd t285 x10_2))) (ds := []) (bs 37 0) (by kernel_rfl) rfl (by kernel_rfl) ⟨hx316_0, hx317_0⟩ (fun hHeld => ?_); refine with_tabW laws_FnTaskKeysChange.tab15 laws_FnTaskKeysChange.bits15 (fun HT_ HW_ => ?_)
                 generalize wr.drew = w80 at HO_5 HO_8 HO_9 HB hx316_0 hx317_0 hHeld ⊢
                 refine pT_ HT_.out 0 68 (bs 37 1) ?_
                 refine pT_ HT_.out 1 69 (bs 37 3) ?_
                 refine pT_ HT_.out 2 70 (bs 37 7) ?_
                 refine pT_ HT_.out 3 71 (bs 37 15) ?_
                 refine pT_ HT_.out 4 72 (bs 37 31) ?_
                 refine pT_ HT_.out 5 73 (bs 37 63) ?_
                 refine pT_ HT_.out 6 74 (bs 37 127) ?_
                 refine one_ (i := 7) (N := some 75) (bs 37 255) rfl rfl (one_of HT_.out (by kernel_rfl)) (by decide) (fun K hK => ?_)
                 refine goes_ Tryd.func14 (by kernel_rfl) rfl #[.slice Ao82 t310.length co82, .int .i64 x10_2] (by rfl) rfl rfl (by (try simp only [List.map_toArray, List.map_cons, List.map_nil]); first | done | rfl | (simp only [List.length_drop, List.length_take]; rfl)) ?_
                 with_reducible refine (laws_isIn.calls k2 _ _ t310 x10_2 false _ ?side1 ?side2 A49.out).mono ?_
                 (case side1 => exact cw_ (Kd.R_reads' HO_9.out).2.2)
                 (case side2 => exact (Kd.R_reads' HO_9.out).2.1)
                 rintro e w' ⟨rfl, ⟨nd, rfl⟩⟩
                 refine ⟨_, rfl, ?_⟩
                 refine hK.out _ _ ⟨hHeld.1, hHeld.2⟩ (fun hHeld => ?_)
                 clear hK K
                 refine norm_ (a' := ?_) ?_ ?_
                 rotate_left
                 ·show Act.put _ (some 75) _ = _
                  simp only [Act.put, List.setIfInBounds_toArray, List.set_cons_zero, List.set_cons_succ, i64_w, i32_w]
                  rfl
                 refine pT_ HT_.out 8 76 (bs 37 511) ?_
                 refine pT_ HT_.out 9 77 (bs 37 1023) ?_
                 refine pT_ HT_.out 10 78 (bs 37 2047) ?_
                 refine pT_ HT_.out 11 79 (bs 37 4095) ?_
                 refine pT_ HT_.out 12 80 (bs 37 8191) ?_
                 refine pT_ HT_.out 14 82 (bs 37 24575) ?_
                 refine pT_ HT_.out 15 83 (bs 37 57343) ?_
                 refine pT_ HT_.out 16 84 (bs 37 122879) ?_
                 refine take_ (i := 13) (N := some 81) (v := ?_) (a' := ?_) (bs 37 131071) rfl rfl (take_ofW HT_.out HW_.out (by kernel_rfl)) (fun _ _ _ h => h) (Or.inl ⟨by rfl, ?_⟩) hHeld ?_ ?_
                 rotate_left
                 ·rintro w' ⟨s0, s1⟩
                  go_simp
                  with_reducible rfl
                 rotate_left
                 ·simp only [Act.put, List.setIfInBounds_toArray, List.set_cons_zero, List.set_cons_succ, i64_w, i32_w]
                  rfl
                 refine take_ (i := 17) (N := some 85) (v := ?_) (a' := ?_) (bs 37 262143) rfl rfl (take_ofW HT_.out HW_.out (by kernel_rfl)) (fun _ _ _ h => h) (Or.inl ⟨by rfl, ?_⟩) hHeld ?_ ?_
                 rotate_left
                 ·rintro w' ⟨s0, s1⟩
                  go_simp
                  with_reducible rfl
                 rotate_left
                 ·simp only [Act.put, List.setIfInBounds_toArray, List.set_cons_zero, List.set_cons_succ, i64_w, i32_w]
                  rfl
                 refine pT_ HT_.out 18 86 (bs 37 524287) ?_
                 refine pT_ HT_.out 19 87 (bs 37 1048575) ?_
                 refine pT_ HT_.out 20 88 (bs 37 2097151) ?_
                 refine pT_ HT_.out 21 89 (bs 37 4194303) ?_
                 refine pU_ HT_.out 22 90 (bs 37 8388607) ?_
                 refine pU_ HT_.out 23 91 (bs 37 16777215) ?_
                 refine pU_ HT_.out 24 92 (bs 37 33554431) ?_
                 refine pU_ HT_.out 25 93 (bs 37 67108863) ?_
                 refine pU_ HT_.out 26 94 (bs 37 134217727) ?_
                 refine pU_ HT_.out 27 95 (bs 37 268435455) ?_
                 refine pU_ HT_.out 28 96 (bs 37 536870911) ?_
                 refine pU_ HT_.out 29 97 (bs 37 1073741823) ?_
                 refine pU_ HT_.out 30 98 (bs 37 2147483647) ?_
                 refine pU_ HT_.out 31 99 (bs 37 4294967295) ?_
                 refine pU_ HT_.out 32 100 (bs 37 8589934591) ?_
                 refine pU_ HT_.out 33 101 (bs 37 17179869183) ?_
                 refine pU_ HT_.out 34 102 (bs 37 34359738367) ?_
                 refine pU_ HT_.out 35 103 (bs 37 68719476735) ?_
                 refine pT_ HT_.out 36 104 (bs 37 137438953471) ?_
                 refine done_ (done_of HT_.out (by kernel_rfl)) ?_
                 try go_wp2
                 go_ret
                 exact ⟨by first | rfl | (simp [errW_none, errW_some] <;> rfl) | (simp only [← hji27]; first | rfl | (simp [errW_none, errW_some] <;> rfl)) | (simp [*, errW_none, errW_some] <;> rfl), blw_⟩
               ·rw [if_neg c68] at H
                exact absurd H (by simp)
              ·rw [if_neg c67] at H
               exact absurd H (by simp)
           ·rw [if_neg c44] at H
            have c44b0 : decide (x10_2 < (t285.length : Int)) = false := decide_eq_false c44
            clear c44
            obtain rfl := Option.some.inj H
            obtain ⟨Ao83, co83, eo83⟩ := Kd.R_slice HO_5.out
            subst eo83
            go_wp2
            go_ret
            exact ⟨by first | rfl | (simp [errW_none, errW_some] <;> rfl) | (simp only [← hji27]; first | rfl | (simp [errW_none, errW_some] <;> rfl)) | (simp [*, errW_none, errW_some] <;> rfl), blw_⟩
        ·rw [if_neg c29] at H
         exact absurd H (by simp)
       ·rw [if_neg c28] at H
        exact absurd H (by simp)
      ·rw [if_neg c26] at H
       exact absurd H (by simp)

/-- THE ONE PURE STATEMENT of laws_FnTaskKeysChange: yours. -/
def laws_FnTaskKeysChange.Pure : Prop := ∀ (l0 : List Int), l0.length ≤ maxLen → l0.length * 1 ≤ 140737488351232 → (∀ x ∈ l0, (Lit.int .u8 x).wf = true) → ∃ k, laws_FnTaskKeysChange.f k l0 = some true
theorem laws_FnTaskKeysChange.walk (P : laws_FnTaskKeysChange.Pure) (a0 : Option Addr) (len0 cap0 : Nat) (z0 : List Int) (w : World) (w0 : (a0 = none ∧ len0 = 0 ∧ cap0 = 0 ∧ z0 = []) ∨ ∃ x, a0 = some x ∧ len0 ≤ cap0 ∧ cap0 ≤ maxLen ∧ z0.length = cap0 ∧ (∀ i, i < z0.length → w.cell? (x.add i) = some (.int .u8 (z0.getD i 0))) ∧ ∀ n ∈ z0, (Lit.int .u8 n).wf = true) (y0 : len0 * 1 ≤ 140737488351232) (hT_ : Tab w) :
  Calls Tryd.prog 3 #[.slice a0 len0 cap0] w fun e w' => e = .returned (.bool true) ∧ Below w.heap.size w w' := by
 obtain ⟨l0, rfl, hr0, hm0, hw0, hc0⟩ := ReadsInt.ofRowC w0
 obtain ⟨k, h⟩ := P l0 hm0 y0 hw0
 refine (laws_FnTaskKeysChange.calls k _ _ l0 true w (Kd.C_of_reads (d := (0 : Int)) (h1 := fun _ => rfl) hr0) hc0 h hT_).mono ?_
 rintro e w' ⟨rfl, hd⟩
 exact ⟨rfl, hd⟩

end Go.Proofs.YtcmhdcjdgchnfaaDoor.G
