-- SLIM
-- Written by hyb.py, a driver of this session round the print.py of the kit. Lean checks it.
import Derived.Test.YtgdoajmgheokbaaDoorWRepsOne
import Derived.Test.YtgdoajmgheokbaaDoorWGuard
import Derived.Test.YtgdoajmgheokbaaDoorG0
import Derived.Test.YtgdoajmgheokbaaDoorG2
import Derived.Test.YtgdoajmgheokbaaDoorG6
import Derived.Test.YtgdoajmgheokbaaDoorHDraw
import Derived.Test.YtgdoajmgheokbaaDoorHKeys
import Derived.Test.YtgdoajmgheokbaaDoorHMiss
import Derived.Test.YtgdoajmgheokbaaDoorHStale
namespace Go.Proofs.YtgdoajmgheokbaaDoor.G
open Go.RowKit Go.Proofs.YtgdoajmgheokbaaDoorW.PrintWords Go.Proofs.YtgdoajmgheokbaaDoorW.PrintLast Go.Proofs.YtgdoajmgheokbaaDoorW.PrintMore
attribute [local go_sem] max2_int min2_int max_two min_two max_three min_three max_four min_four   -- for this text's walks alone
set_option linter.unusedVariables false
set_option linter.unusedSimpArgs false

/-! ### laws_FnMissingKeysStale: function 5 -/
mutual
def laws_FnMissingKeysStale.j0 : Nat → List Int → List (S74) → List Int → List Int → Bool → Option (Bool)
 | 0, _, _, _, _, _ => none
 | k + 1, x0, x3, x4, x5, x32 => if x32 = true then ((spec_TaskKeys.f k x3 x4).bind fun t413 => ((laws_equalInts.f k x5 t413).bind fun t416 => (some t416))) else (if (x3.length : Int) = 0 then (none) else ((some (([] : List Int) : List Int)).bind fun y417 => (if y417.length + x4.length < 17592186044416 then ((some (y417 ++ x4 : List Int)).bind fun y420 => (if 0 ≤ ((x0.length : Int) % (x3.length : Int)) then (if ((x0.length : Int) % (x3.length : Int)) < (y420.length : Int) then ((impl_MissingKeys.f x3 (y420.set (((x0.length : Int) % (x3.length : Int)) : Int).toNat (Int.tmod (wrap64 ((rd y420 ((x0.length : Int) % (x3.length : Int))) + 1)) 1001)) x5).bind fun t425 => ((impl_StaleTasks.f x3 (([(x0.length : Int) % (x3.length : Int)] : List Int))).bind fun t431 => (laws_FnMissingKeysStale.l0 k t425 t431 0))) else (none)) else (none))) else (none))))
def laws_FnMissingKeysStale.l0 : Nat → List Int → List Int → Int → Option (Bool)
 | 0, _, _, _ => none
 | k + 1, x8, x9, x10 => if x10 < (x8.length : Int) then (if 0 ≤ x10 then ((laws_isIn.f k x9 (rd x8 x10)).bind fun t435 => (if t435 = true then (laws_FnMissingKeysStale.l0 k x8 x9 (wrap64 (x10 + 1))) else (some false))) else (none)) else (some true)
end
def laws_FnMissingKeysStale.f (k : Nat) (l0 : List Int) : Option (Bool) := if (l0.length : Int) > 1048576 then (some true) else ((spec_DrawTaskKeys.f l0).bind fun bt400 => ((impl_TaskKeys.f bt400.1 bt400.2).bind fun t406 => ((spec_TaskKeys.f k bt400.1 bt400.2).bind fun t409 => ((laws_equalInts.f k t406 t409).bind fun t412 => (if t412 = true then (laws_FnMissingKeysStale.j0 k l0 bt400.1 bt400.2 t406 ((t406.length : Int) == 0)) else (laws_FnMissingKeysStale.j0 k l0 bt400.1 bt400.2 t406 true))))))
set_option maxHeartbeats 8000000 in
set_option maxRecDepth 100000 in
theorem laws_FnMissingKeysStale.calls (k : Nat) (A0 : Option Addr) (c0 : Nat) (l0 : List Int) (r : Bool) (w : World) (hr0 : Kd.C (Kd.int .u8) w A0 l0.length l0) (hc0 : l0.length ≤ c0) (h : laws_FnMissingKeysStale.f k l0 = some r) (hT_ : Tab w) :
  Calls Tryd.prog 5 #[.slice A0 l0.length c0] w fun e w' => e = .returned (.bool r) ∧ Below w.heap.size w w' := by
 have HT_ := Aside0.mk hT_
 clear hT_
 have HR0 := Aside0.mk hr0
 have HC0 := Aside0.mk hc0
 clear hr0 hc0
 have HB := Aside0.mk (Below.refl w.heap.size w)
 have H : (if (l0.length : Int) > 1048576 then (some true) else ((spec_DrawTaskKeys.f l0).bind fun bt400 => ((impl_TaskKeys.f bt400.1 bt400.2).bind fun t406 => ((spec_TaskKeys.f k bt400.1 bt400.2).bind fun t409 => ((laws_equalInts.f k t406 t409).bind fun t412 => (if t412 = true then (laws_FnMissingKeysStale.j0 k l0 bt400.1 bt400.2 t406 ((t406.length : Int) == 0)) else (laws_FnMissingKeysStale.j0 k l0 bt400.1 bt400.2 t406 true))))))) = some r := h
 clear h
 by_cases c2 : (l0.length : Int) > 1048576
 ·rw [if_pos c2] at H
  have c2b0 : decide (1048576 < (l0.length : Int)) = true := decide_eq_true c2
  have c2b1 : decide (1048576 < l0.length) = true := decide_eq_true (by omega)
  clear c2
  obtain rfl := Option.some.inj H
  go_enter Tryd.func5, Tryd.ntmps5
  go_wp2
  go_ret
  exact ⟨by first | rfl | (simp [errW_none, errW_some] <;> rfl) | (simp [*, errW_none, errW_some] <;> rfl), blw_⟩
 ·rw [if_neg c2] at H
  have c2b0 : decide (1048576 < (l0.length : Int)) = false := decide_eq_false c2
  have c2b1 : decide (1048576 < l0.length) = false := decide_eq_false (by omega)
  clear c2
  replace H := Option.bind_eq_some_iff.mp H
  obtain ⟨⟨t400, t403⟩, A30, H⟩ := H
  replace H : ((impl_TaskKeys.f t400 t403).bind fun t406 => ((spec_TaskKeys.f k t400 t403).bind fun t409 => ((laws_equalInts.f k t406 t409).bind fun t412 => (if t412 = true then (laws_FnMissingKeysStale.j0 k l0 t400 t403 t406 ((t406.length : Int) == 0)) else (laws_FnMissingKeysStale.j0 k l0 t400 t403 t406 true))))) = some r := H
  have A3 := Aside0.mk A30
  clear A30
  replace H := Option.bind_eq_some_iff.mp H
  obtain ⟨t406, A40, H⟩ := H
  replace H : ((spec_TaskKeys.f k t400 t403).bind fun t409 => ((laws_equalInts.f k t406 t409).bind fun t412 => (if t412 = true then (laws_FnMissingKeysStale.j0 k l0 t400 t403 t406 ((t406.length : Int) == 0)) else (laws_FnMissingKeysStale.j0 k l0 t400 t403 t406 true)))) = some r := H
  have A4 := Aside0.mk A40
  clear A40
  have HC5 := Aside0.mk H
  clear H
  go_enter Tryd.func5, Tryd.ntmps5
  go_upto_region 5 with (first | ((with_reducible refine gate_callee (f := 15) rfl ?_); refine goesC_ (some 16) Tryd.func15 #[.slice A0 l0.length c0] ?_; (with_reducible refine (spec_DrawTaskKeys.calls _ _ l0 t400 t403 _ ?side1 ?side2 A3.out).mono ?_); (case side1 => exact cw_ HR0.out); (case side2 => exact HC0.out); rintro e w6 ⟨v401, v404, rfl, ho0, ho1, hb⟩; refine ⟨_, rfl, ?_⟩; have n0_ := Aside0.mk (Kd.V_lower (Kd.V_mono (ok' := fun k_ => True) ho0 (fun k_ hk_ => trivial)) (below_size blw_)); have n1_ := Aside0.mk (Kd.V_lower (Kd.V_mono (ok' := fun k_ => True) ho1 (fun k_ hk_ => trivial)) (below_size blw_)); have n2_ := Aside0.mk (below_step blw_ hb); clear HB; have HO402 := n0_; have HO405 := n1_; have HB := n2_; clear n0_ n1_ n2_; (try clear hb); (try clear hb2); (try clear hk); (try clear hi); (try clear ho0); (try clear ho1); obtain ⟨Ao7, co7, eo7⟩ := Kd.V_slice HO402.out; subst eo7; obtain ⟨Ao8, co8, eo8⟩ := Kd.V_slice HO405.out; subst eo8) | ((with_reducible refine gate_callee (f := 16) rfl ?_); refine goesC_ (some 21) Tryd.func16 #[.slice Ao7 t400.length co7, .slice Ao8 t403.length co8] ?_; (with_reducible refine (impl_TaskKeys.calls _ _ t400 _ _ t403 t406 _ ?side1 ?side2 ?side3 ?side4 A4.out ?sideT).mono ?_); (case sideT => first | exact HT_.out.below blw_ HT_.out.pos | exact HT_.out); (case side1 => exact cw_ (Kd.V_reads' HO402.out).2.2); (case side2 => exact (Kd.V_reads' HO402.out).2.1); (case side3 => exact cw_ (Kd.V_reads' HO405.out).2.2); (case side4 => exact (Kd.V_reads' HO405.out).2.1); rintro e w9 ⟨v407, rfl, ho0, hb⟩; refine ⟨_, rfl, ?_⟩; have n0_ := Aside0.mk (Kd.V_elder' (by (with_reducible repeat (first | apply Kd.V_alloc | apply Kd.V_drewN | apply Kd.V_drew)); exact HO402.out) (Kd.R_base ho0) hb); have n1_ := Aside0.mk (Kd.V_elder' (by (with_reducible repeat (first | apply Kd.V_alloc | apply Kd.V_drewN | apply Kd.V_drew)); exact HO405.out) (Kd.R_base ho0) hb); have n2_ := Aside0.mk (Kd.R_lower ho0 (below_size blw_)); have n3_ := Aside0.mk (below_step blw_ hb); clear HO402; clear HO405; clear HB; have HO402 := n0_; have HO405 := n1_; have HO408 := n2_; have HB := n3_; clear n0_ n1_ n2_ n3_; (try clear hb); (try clear hb2); (try clear hk); (try clear hi); (try clear ho0)))
  (try simp only [Act.put, List.setIfInBounds_toArray, List.set_cons_zero, List.set_cons_succ])
  go_cut [32] (fun v32 wc => ∃ (kq : Nat) (x32_4 : Bool), v32 = .bool x32_4 ∧ Aside0 (laws_FnMissingKeysStale.j0 kq l0 t400 t403 t406 x32_4 = some r) ∧ Aside0 (kq ≤ k) ∧ Aside0 (Kd.V k74 74 wc w.heap.size (fun k_ => some k_ ≠ (v407 : Value).ownBlock) (.slice Ao7 t400.length co7) t400) ∧ Aside0 (Kd.V (Kd.int .i64) 3 wc w.heap.size (fun k_ => some k_ ≠ (v407 : Value).ownBlock) (.slice Ao8 t403.length co8) t403) ∧ Aside0 (Kd.R (Kd.int .i64) 3 wc w.heap.size (fun _ => True) v407 t406) ∧ Aside0 (Below w.heap.size w wc))
  case first =>
   have H := HC5.out
   clear HC5
   replace H := Option.bind_eq_some_iff.mp H
   obtain ⟨t409, A100, H⟩ := H
   replace H : ((laws_equalInts.f k t406 t409).bind fun t412 => (if t412 = true then (laws_FnMissingKeysStale.j0 k l0 t400 t403 t406 ((t406.length : Int) == 0)) else (laws_FnMissingKeysStale.j0 k l0 t400 t403 t406 true))) = some r := H
   have A10 := Aside0.mk A100
   clear A100
   replace H := Option.bind_eq_some_iff.mp H
   obtain ⟨t412, A110, H⟩ := H
   replace H : (if t412 = true then (laws_FnMissingKeysStale.j0 k l0 t400 t403 t406 ((t406.length : Int) == 0)) else (laws_FnMissingKeysStale.j0 k l0 t400 t403 t406 true)) = some r := H
   have A11 := Aside0.mk A110
   clear A110
   by_cases c12 : t412 = true
   ·subst c12
    have H1 : (laws_FnMissingKeysStale.j0 k l0 t400 t403 t406 ((t406.length : Int) == 0)) = some r := by rw [if_pos rfl] at H; exact H
    clear H
    have H := H1
    clear H1
    have H' := Aside0.mk H
    clear H
    go_wp2_with (first | ((with_reducible refine gate_callee (f := 17) rfl ?_); refine goesC_ (some 25) Tryd.func17 #[.slice Ao7 t400.length co7, .slice Ao8 t403.length co8] ?_; (with_reducible refine (spec_TaskKeys.calls k _ _ t400 _ _ t403 t409 _ ?side1 ?side2 ?side3 ?side4 A10.out).mono ?_); (case side1 => exact cw_ (Kd.V_reads' HO402.out).2.2); (case side2 => exact (Kd.V_reads' HO402.out).2.1); (case side3 => exact cw_ (Kd.V_reads' HO405.out).2.2); (case side4 => exact (Kd.V_reads' HO405.out).2.1); rintro e w13 ⟨v410, rfl, ho0, hb⟩; refine ⟨_, rfl, ?_⟩; have n0_ := Aside0.mk (Kd.V_elder' (by (with_reducible repeat (first | apply Kd.V_alloc | apply Kd.V_drewN | apply Kd.V_drew)); exact HO402.out) (Kd.R_base ho0) hb); have n1_ := Aside0.mk (Kd.V_elder' (by (with_reducible repeat (first | apply Kd.V_alloc | apply Kd.V_drewN | apply Kd.V_drew)); exact HO405.out) (Kd.R_base ho0) hb); have n2_ := Aside0.mk (Kd.R_elder' (by (with_reducible repeat (first | apply Kd.R_alloc | apply Kd.R_drewN | apply Kd.R_drew)); exact HO408.out) (Kd.R_base ho0) hb); have n3_ := Aside0.mk (Kd.R_lower (Kd.R_new' ho0 (Kd.R_lt (by (with_reducible repeat (first | apply Kd.R_alloc | apply Kd.R_drewN | apply Kd.R_drew)); exact HO408.out))) (below_size blw_)); have n4_ := Aside0.mk (below_step blw_ hb); clear HO402; clear HO405; clear HO408; clear HB; have HO402 := n0_; have HO405 := n1_; have HO408 := n2_; have HO411 := n3_; have HB := n4_; clear n0_ n1_ n2_ n3_ n4_; (try clear hb); (try clear hb2); (try clear hk); (try clear hi); (try clear ho0); obtain ⟨Ao14, co14, eo14⟩ := Kd.R_slice HO408.out; subst eo14; obtain ⟨Ao15, co15, eo15⟩ := Kd.R_slice HO411.out; subst eo15) | ((with_reducible refine gate_callee (f := 11) rfl ?_); refine goesC_ (some 26) Tryd.func11 #[.slice Ao14 t406.length co14, .slice Ao15 t409.length co15] ?_; (with_reducible refine (laws_equalInts.calls k _ _ t406 _ _ t409 true _ ?side1 ?side2 ?side3 ?side4 A11.out).mono ?_); (case side1 => exact cw_ (Kd.R_reads' HO408.out).2.2); (case side2 => exact (Kd.R_reads' HO408.out).2.1); (case side3 => exact cw_ (Kd.R_reads' HO411.out).2.2); (case side4 => exact (Kd.R_reads' HO411.out).2.1); rintro e w' ⟨rfl, ⟨nd, rfl⟩⟩; refine ⟨_, rfl, ?_⟩))
    go_meet
    case rel => exact ⟨_, (((t406.length : Int) == 0)), (by first | rfl | (simp; done) | (simp [*]; done)), H', ⟨by first | omega | exact Nat.le_refl _⟩, ⟨by (with_reducible repeat (first | apply Kd.V_alloc | apply Kd.V_drewN | apply Kd.V_drew)); exact Kd.V_mono HO402.out (fun _ hk => hk.1.2)⟩, ⟨by (with_reducible repeat (first | apply Kd.V_alloc | apply Kd.V_drewN | apply Kd.V_drew)); exact Kd.V_mono HO405.out (fun _ hk => hk.1.2)⟩, ⟨by (with_reducible repeat (first | apply Kd.R_alloc | apply Kd.R_drewN | apply Kd.R_drew)); exact Kd.R_mono HO408.out (fun _ hk => trivial)⟩, ⟨blw_⟩⟩
   ·replace c12 := Bool.eq_false_iff.mpr c12
    subst c12
    have H1 : (laws_FnMissingKeysStale.j0 k l0 t400 t403 t406 true) = some r := by rw [if_neg (show ¬ (false = true) by decide)] at H; exact H
    clear H
    have H := H1
    clear H1
    have H' := Aside0.mk H
    clear H
    go_wp2_with (first | ((with_reducible refine gate_callee (f := 17) rfl ?_); refine goesC_ (some 25) Tryd.func17 #[.slice Ao7 t400.length co7, .slice Ao8 t403.length co8] ?_; (with_reducible refine (spec_TaskKeys.calls k _ _ t400 _ _ t403 t409 _ ?side1 ?side2 ?side3 ?side4 A10.out).mono ?_); (case side1 => exact cw_ (Kd.V_reads' HO402.out).2.2); (case side2 => exact (Kd.V_reads' HO402.out).2.1); (case side3 => exact cw_ (Kd.V_reads' HO405.out).2.2); (case side4 => exact (Kd.V_reads' HO405.out).2.1); rintro e w16 ⟨v410, rfl, ho0, hb⟩; refine ⟨_, rfl, ?_⟩; have n0_ := Aside0.mk (Kd.V_elder' (by (with_reducible repeat (first | apply Kd.V_alloc | apply Kd.V_drewN | apply Kd.V_drew)); exact HO402.out) (Kd.R_base ho0) hb); have n1_ := Aside0.mk (Kd.V_elder' (by (with_reducible repeat (first | apply Kd.V_alloc | apply Kd.V_drewN | apply Kd.V_drew)); exact HO405.out) (Kd.R_base ho0) hb); have n2_ := Aside0.mk (Kd.R_elder' (by (with_reducible repeat (first | apply Kd.R_alloc | apply Kd.R_drewN | apply Kd.R_drew)); exact HO408.out) (Kd.R_base ho0) hb); have n3_ := Aside0.mk (Kd.R_lower (Kd.R_new' ho0 (Kd.R_lt (by (with_reducible repeat (first | apply Kd.R_alloc | apply Kd.R_drewN | apply Kd.R_drew)); exact HO408.out))) (below_size blw_)); have n4_ := Aside0.mk (below_step blw_ hb); clear HO402; clear HO405; clear HO408; clear HB; have HO402 := n0_; have HO405 := n1_; have HO408 := n2_; have HO411 := n3_; have HB := n4_; clear n0_ n1_ n2_ n3_ n4_; (try clear hb); (try clear hb2); (try clear hk); (try clear hi); (try clear ho0); obtain ⟨Ao17, co17, eo17⟩ := Kd.R_slice HO408.out; subst eo17; obtain ⟨Ao18, co18, eo18⟩ := Kd.R_slice HO411.out; subst eo18) | ((with_reducible refine gate_callee (f := 11) rfl ?_); refine goesC_ (some 26) Tryd.func11 #[.slice Ao17 t406.length co17, .slice Ao18 t409.length co18] ?_; (with_reducible refine (laws_equalInts.calls k _ _ t406 _ _ t409 false _ ?side1 ?side2 ?side3 ?side4 A11.out).mono ?_); (case side1 => exact cw_ (Kd.R_reads' HO408.out).2.2); (case side2 => exact (Kd.R_reads' HO408.out).2.1); (case side3 => exact cw_ (Kd.R_reads' HO411.out).2.2); (case side4 => exact (Kd.R_reads' HO411.out).2.1); rintro e w' ⟨rfl, ⟨nd, rfl⟩⟩; refine ⟨_, rfl, ?_⟩))
    go_meet
    case rel => exact ⟨_, (true), (by first | rfl | (simp; done) | (simp [*]; done)), H', ⟨by first | omega | exact Nat.le_refl _⟩, ⟨by (with_reducible repeat (first | apply Kd.V_alloc | apply Kd.V_drewN | apply Kd.V_drew)); exact Kd.V_mono HO402.out (fun _ hk => hk.1.2)⟩, ⟨by (with_reducible repeat (first | apply Kd.V_alloc | apply Kd.V_drewN | apply Kd.V_drew)); exact Kd.V_mono HO405.out (fun _ hk => hk.1.2)⟩, ⟨by (with_reducible repeat (first | apply Kd.R_alloc | apply Kd.R_drewN | apply Kd.R_drew)); exact Kd.R_mono HO408.out (fun _ hk => trivial)⟩, ⟨blw_⟩⟩
  case rest =>
   clear HC5
   try clear c1
   try clear c2
   try clear c2b0
   try clear c2b1
   try clear p2
   try clear c5
   try clear c11
   try clear c12
   try clear c15
   try clear c16
   try clear c17
   obtain ⟨kq, x32_4, rfl, HA, HJ4, HO_3, HO_4, HO_5, HB⟩ := hcut
   cases kq with
   | zero => exact absurd HA.out (by simp [laws_FnMissingKeysStale.j0])
   | succ kj4 =>
    have H := HA.out
    clear HA
    simp only [laws_FnMissingKeysStale.j0] at H
    by_cases c19 : x32_4 = true
    ·subst c19
     have H1 : ((spec_TaskKeys.f kj4 t400 t403).bind fun t413 => ((laws_equalInts.f kj4 t406 t413).bind fun t416 => (some t416))) = some r := by rw [if_pos rfl] at H; exact H
     clear H
     have H := H1
     clear H1
     replace H := Option.bind_eq_some_iff.mp H
     obtain ⟨t413, A200, H⟩ := H
     replace H : ((laws_equalInts.f kj4 t406 t413).bind fun t416 => (some t416)) = some r := H
     have A20 := Aside0.mk A200
     clear A200
     replace H := Option.bind_eq_some_iff.mp H
     obtain ⟨t416, A210, H⟩ := H
     replace H : (some t416) = some r := H
     have A21 := Aside0.mk A210
     clear A210
     obtain rfl := Option.some.inj H
     go_wp2_with (first | ((with_reducible refine gate_callee (f := 17) rfl ?_); refine goesC_ (some 36) Tryd.func17 #[.slice Ao7 t400.length co7, .slice Ao8 t403.length co8] ?_; (with_reducible refine (spec_TaskKeys.calls kj4 _ _ t400 _ _ t403 t413 _ ?side1 ?side2 ?side3 ?side4 A20.out).mono ?_); (case side1 => exact cw_ (Kd.V_reads' HO_3.out).2.2); (case side2 => exact (Kd.V_reads' HO_3.out).2.1); (case side3 => exact cw_ (Kd.V_reads' HO_4.out).2.2); (case side4 => exact (Kd.V_reads' HO_4.out).2.1); rintro e w22 ⟨v414, rfl, ho0, hb⟩; refine ⟨_, rfl, ?_⟩; have n0_ := Aside0.mk (Kd.V_elder' (by (with_reducible repeat (first | apply Kd.V_alloc | apply Kd.V_drewN | apply Kd.V_drew)); exact HO_3.out) (Kd.R_base ho0) hb); have n1_ := Aside0.mk (Kd.V_elder' (by (with_reducible repeat (first | apply Kd.V_alloc | apply Kd.V_drewN | apply Kd.V_drew)); exact HO_4.out) (Kd.R_base ho0) hb); have n2_ := Aside0.mk (Kd.R_elder' (by (with_reducible repeat (first | apply Kd.R_alloc | apply Kd.R_drewN | apply Kd.R_drew)); exact HO_5.out) (Kd.R_base ho0) hb); have n3_ := Aside0.mk (Kd.R_lower (Kd.R_new' ho0 (Kd.R_lt (by (with_reducible repeat (first | apply Kd.R_alloc | apply Kd.R_drewN | apply Kd.R_drew)); exact HO_5.out))) (below_size blw_)); have n4_ := Aside0.mk (below_step blw_ hb); clear HO_3; clear HO_4; clear HO_5; clear HB; have HO_3 := n0_; have HO_4 := n1_; have HO_5 := n2_; have HO415 := n3_; have HB := n4_; clear n0_ n1_ n2_ n3_ n4_; (try clear hb); (try clear hb2); (try clear hk); (try clear hi); (try clear ho0); obtain ⟨Ao23, co23, eo23⟩ := Kd.R_slice HO_5.out; subst eo23; obtain ⟨Ao24, co24, eo24⟩ := Kd.R_slice HO415.out; subst eo24) | ((with_reducible refine gate_callee (f := 11) rfl ?_); refine goesC_ (some 37) Tryd.func11 #[.slice Ao23 t406.length co23, .slice Ao24 t413.length co24] ?_; (with_reducible refine (laws_equalInts.calls kj4 _ _ t406 _ _ t413 t416 _ ?side1 ?side2 ?side3 ?side4 A21.out).mono ?_); (case side1 => exact cw_ (Kd.R_reads' HO_5.out).2.2); (case side2 => exact (Kd.R_reads' HO_5.out).2.1); (case side3 => exact cw_ (Kd.R_reads' HO415.out).2.2); (case side4 => exact (Kd.R_reads' HO415.out).2.1); rintro e w' ⟨rfl, ⟨nd, rfl⟩⟩; refine ⟨_, rfl, ?_⟩))
     go_ret
     exact ⟨by first | rfl | (simp [errW_none, errW_some] <;> rfl) | (simp [*, errW_none, errW_some] <;> rfl), blw_⟩
    ·replace c19 := Bool.eq_false_iff.mpr c19
     subst c19
     have H1 : (if (t400.length : Int) = 0 then (none) else ((some (([] : List Int) : List Int)).bind fun y417 => (if y417.length + t403.length < 17592186044416 then ((some (y417 ++ t403 : List Int)).bind fun y420 => (if 0 ≤ ((l0.length : Int) % (t400.length : Int)) then (if ((l0.length : Int) % (t400.length : Int)) < (y420.length : Int) then ((impl_MissingKeys.f t400 (y420.set (((l0.length : Int) % (t400.length : Int)) : Int).toNat (Int.tmod (wrap64 ((rd y420 ((l0.length : Int) % (t400.length : Int))) + 1)) 1001)) t406).bind fun t425 => ((impl_StaleTasks.f t400 (([(l0.length : Int) % (t400.length : Int)] : List Int))).bind fun t431 => (laws_FnMissingKeysStale.l0 kj4 t425 t431 0))) else (none)) else (none))) else (none)))) = some r := by rw [if_neg (show ¬ (false = true) by decide)] at H; exact H
     clear H
     have H := H1
     clear H1
     by_cases c25 : (t400.length : Int) = 0
     ·rw [if_pos c25] at H
      exact absurd H (by simp)
     ·rw [if_neg c25] at H
      have c25b0 : ((t400.length : Int) == 0) = false := beq_eq_false_iff_ne.mpr c25
      have c25b1 : ((t400.length : Int) != 0) = true := bne_iff_ne.mpr c25
      have c25b2 : ¬ (t400 = []) := fun h_ => c25 (by rw [h_]; rfl)
      obtain ⟨y417, hy417⟩ : ∃ y_ : List Int, y_ = (([] : List Int)) := ⟨_, rfl⟩
      replace H : (if y417.length + t403.length < 17592186044416 then ((some (y417 ++ t403 : List Int)).bind fun y420 => (if 0 ≤ ((l0.length : Int) % (t400.length : Int)) then (if ((l0.length : Int) % (t400.length : Int)) < (y420.length : Int) then ((impl_MissingKeys.f t400 (y420.set (((l0.length : Int) % (t400.length : Int)) : Int).toNat (Int.tmod (wrap64 ((rd y420 ((l0.length : Int) % (t400.length : Int))) + 1)) 1001)) t406).bind fun t425 => ((impl_StaleTasks.f t400 (([(l0.length : Int) % (t400.length : Int)] : List Int))).bind fun t431 => (laws_FnMissingKeysStale.l0 kj4 t425 t431 0))) else (none)) else (none))) else (none)) = some r := by first | (rw [hy417]; with_reducible exact H) | (have H2_ := (Option.bind_some _ _).symm.trans H; rw [hy417]; with_reducible exact H2_) | (have H2_ := (Option.bind_some _ _).symm.trans H; with_reducible exact H2_) | with_reducible exact H | (rw [hy417]; exact H) | exact H
      have Ny417 := Aside0.mk hy417
      clear hy417
      by_cases c26 : y417.length + t403.length < 17592186044416
      ·rw [if_pos c26] at H
       have LMc26 := Aside0.mk c26
       clear c26
       obtain ⟨y420, hy420⟩ : ∃ y_ : List Int, y_ = (y417 ++ t403) := ⟨_, rfl⟩
       replace H : (if 0 ≤ ((l0.length : Int) % (t400.length : Int)) then (if ((l0.length : Int) % (t400.length : Int)) < (y420.length : Int) then ((impl_MissingKeys.f t400 (y420.set (((l0.length : Int) % (t400.length : Int)) : Int).toNat (Int.tmod (wrap64 ((rd y420 ((l0.length : Int) % (t400.length : Int))) + 1)) 1001)) t406).bind fun t425 => ((impl_StaleTasks.f t400 (([(l0.length : Int) % (t400.length : Int)] : List Int))).bind fun t431 => (laws_FnMissingKeysStale.l0 kj4 t425 t431 0))) else (none)) else (none)) = some r := by first | (rw [hy420]; with_reducible exact H) | (have H2_ := (Option.bind_some _ _).symm.trans H; rw [hy420]; with_reducible exact H2_) | (have H2_ := (Option.bind_some _ _).symm.trans H; with_reducible exact H2_) | with_reducible exact H | (rw [hy420]; exact H) | exact H
       have Ny420 := Aside0.mk hy420
       clear hy420
       obtain ⟨ji27, hji27⟩ : ∃ j_ : Int, ((l0.length : Int) % (t400.length : Int)) = j_ := ⟨_, rfl⟩
       replace H : (if 0 ≤ (ji27) then (if (ji27) < (y420.length : Int) then ((impl_MissingKeys.f t400 (y420.set ((ji27) : Int).toNat (Int.tmod (wrap64 ((rd y420 (ji27)) + 1)) 1001)) t406).bind fun t425 => ((impl_StaleTasks.f t400 (([ji27] : List Int))).bind fun t431 => (laws_FnMissingKeysStale.l0 kj4 t425 t431 0))) else (none)) else (none)) = some r := by first | (rw [hji27] at H; exact H) | (simp only [hji27] at H ⊢; exact H)
       by_cases c28 : 0 ≤ (ji27)
       ·rw [if_pos c28] at H
        have c28b0 : decide (0 ≤ (ji27)) = true := decide_eq_true c28
        clear c28
        by_cases c29 : (ji27) < (y420.length : Int)
        ·rw [if_pos c29] at H
         have c29b0 : decide ((ji27) < (y420.length : Int)) = true := decide_eq_true c29
         clear c29
         obtain ⟨y424, hy424⟩ : ∃ y_ : List Int, y_ = (y420.set ((ji27) : Int).toNat (Int.tmod (wrap64 ((rd y420 (ji27)) + 1)) 1001)) := ⟨_, rfl⟩
         replace H : ((impl_MissingKeys.f t400 y424 t406).bind fun t425 => ((impl_StaleTasks.f t400 (([ji27] : List Int))).bind fun t431 => (laws_FnMissingKeysStale.l0 kj4 t425 t431 0))) = some r := by first | (rw [hy424]; with_reducible exact H) | (have H2_ := (Option.bind_some _ _).symm.trans H; rw [hy424]; with_reducible exact H2_) | (have H2_ := (Option.bind_some _ _).symm.trans H; with_reducible exact H2_) | with_reducible exact H | (rw [hy424]; exact H) | exact H
         have Ny424 := Aside0.mk hy424
         clear hy424
         replace H := Option.bind_eq_some_iff.mp H
         obtain ⟨t425, A310, H⟩ := H
         replace H : ((impl_StaleTasks.f t400 (([ji27] : List Int))).bind fun t431 => (laws_FnMissingKeysStale.l0 kj4 t425 t431 0)) = some r := H
         have A31 := Aside0.mk A310
         clear A310
         obtain ⟨y428, hy428⟩ : ∃ y_ : List Int, y_ = (([ji27] : List Int)) := ⟨_, rfl⟩
         replace H : ((impl_StaleTasks.f t400 y428).bind fun t431 => (laws_FnMissingKeysStale.l0 kj4 t425 t431 0)) = some r := by first | (rw [hy428]; with_reducible exact H) | (have H2_ := (Option.bind_some _ _).symm.trans H; rw [hy428]; with_reducible exact H2_) | (have H2_ := (Option.bind_some _ _).symm.trans H; with_reducible exact H2_) | with_reducible exact H | (rw [hy428]; exact H) | exact H
         have Ny428 := Aside0.mk hy428
         clear hy428
         replace H := Option.bind_eq_some_iff.mp H
         obtain ⟨t431, A320, H⟩ := H
         replace H : (laws_FnMissingKeysStale.l0 kj4 t425 t431 0) = some r := H
         have A32 := Aside0.mk A320
         clear A320
         have H' := Aside0.mk H
         clear H
         go_wp2_with (first | ((with_reducible refine gate_dst (N := 43) rfl ?_); (try (refine gate_guard (by rfl) ?_; dsimp only)); refine Kd.R_lit (Kd.int .i64) _ 3 ?hg (N := 43) ?hd (xs := ([] : List Int)) (inner := []) (ok := fun _ => True) (okp := fun _ => True) ?hr ?hp (fun _ hk => hk) trivial (Below.refl _ _) (Nat.le_refl _) (by simp) ?_; (case hd => rfl); (case hg => rfl); (case hr => first | (go_simp; done) | (go_simp; rfl)); (case hp => exact (Reps.none _ _)); intro v418 w33 ho34 hb hg_ hnew_; clear hg_ hnew_; (first | rw [← Ny417.out] at ho34 | (simp only [Int.reduceToNat] at ho34; rw [← Ny417.out] at ho34)); have n0_ := Aside0.mk (Kd.V_elder' (by (with_reducible repeat (first | apply Kd.V_alloc | apply Kd.V_drewN | apply Kd.V_drew)); exact HO_3.out) (Kd.R_base ho34) hb); have n1_ := Aside0.mk (Kd.V_elder' (by (with_reducible repeat (first | apply Kd.V_alloc | apply Kd.V_drewN | apply Kd.V_drew)); exact HO_4.out) (Kd.R_base ho34) hb); have n2_ := Aside0.mk (Kd.R_elder' (by (with_reducible repeat (first | apply Kd.R_alloc | apply Kd.R_drewN | apply Kd.R_drew)); exact HO_5.out) (Kd.R_base ho34) hb); have n3_ := Aside0.mk (Kd.R_lower (Kd.R_new' ho34 (Kd.R_lt (by (with_reducible repeat (first | apply Kd.R_alloc | apply Kd.R_drewN | apply Kd.R_drew)); exact HO_5.out))) (below_size blw_)); have n4_ := Aside0.mk (below_step blw_ hb); clear HO_3; clear HO_4; clear HO_5; clear HB; have HO_3 := n0_; have HO_4 := n1_; have HO_5 := n2_; have HO419 := n3_; have HB := n4_; clear n0_ n1_ n2_ n3_ n4_; clear hb ho34) | ((with_reducible refine gate_builtin (b := .append) (xs := #[.tmp 43, .tmp 44]) rfl ?_); (try (refine gate_guard (by rfl) ?_; dsimp only)); at_builtin; refine Kd.R_append_rows (Kd.int .i64) (w0 := w) w.heap.size rfl (.tmp 43) (.tmp 44) 24 3 (.int .i64 0) 8 rfl Tryd.underlying24 info3 rfl (by decide) (by omega) v418 y417 t403 _ _ _ (fun k_ => some k_ ≠ (v407 : Value).ownBlock) (fun _ => False) rfl rfl ?aO ?aR (fun _ _ h => h) (fun _ h => h.elim) ?aF ?aB ?aS ?aL ?_; (case aR => exact cw_ (Kd.V_reads' HO_4.out).2.2); (case aB => exact blw_); (case aF => exact (fun k_ hk => Kd.fresh' (Kd.R_lt (by (with_reducible repeat (first | apply Kd.R_alloc | apply Kd.R_drewN | apply Kd.R_drew)); exact HO_5.out)) k_ hk)); (case aO => exact (by (with_reducible repeat (first | apply Kd.R_alloc | apply Kd.R_drewN | apply Kd.R_drew)); exact Kd.R_mono HO419.out (fun _ hk => hk.2))); (case aS => exact (below_size blw_)); (case aL => have := LMc26.out; omega); intro v421 w35 ho hb hg hat; rw [← Ny420.out] at ho; have n0_ := Aside0.mk (Kd.V_afterv (ok := (fun k_ => some k_ ≠ (v407 : Value).ownBlock)) (by (with_reducible repeat (first | apply Kd.V_alloc | apply Kd.V_drewN | apply Kd.V_drew)); exact HO_3.out) hg hat); have n1_ := Aside0.mk (Kd.V_afterv (ok := (fun k_ => some k_ ≠ (v407 : Value).ownBlock)) (by (with_reducible repeat (first | apply Kd.V_alloc | apply Kd.V_drewN | apply Kd.V_drew)); exact HO_4.out) hg hat); have n2_ := Aside0.mk (Kd.R_after (ok := (fun _ => True)) (by (with_reducible repeat (first | apply Kd.R_alloc | apply Kd.R_drewN | apply Kd.R_drew)); exact HO_5.out) hg hat); have n3_ := Aside0.mk (hb); have n4_ := Aside0.mk (ho); clear HO_3; clear HO_4; clear HO_5; clear HB; clear HO419; have HO_3 := n0_; have HO_4 := n1_; have HO_5 := n2_; have HB := n3_; have HO422 := n4_; clear n0_ n1_ n2_ n3_ n4_; clear ho hb hg hat; obtain ⟨Ao36, co36, eo36⟩ := Kd.R_slice HO422.out; subst eo36; have p423 : 0 ≤ ((ji27) : Int) := of_decide_eq_true (by first | (with_reducible assumption) | assumption); have q423 : (ji27) < (y420.length : Int) := of_decide_eq_true (by first | (with_reducible assumption) | assumption); obtain ⟨ad423, e423, hx423_0⟩ := Kd.at_int (Kd.R_reads' HO422.out).2.2 (ji27) p423 q423; cases e423; replace p423 := eq_true p423; replace q423 := eq_true q423; have p30 : 0 ≤ ((ji27) : Int) := of_decide_eq_true (by first | (with_reducible assumption) | assumption); have q30 : ((ji27) : Int) < ((y420.length : Int) : Int) := of_decide_eq_true (by first | (with_reducible assumption) | assumption); obtain ⟨go30, co30, eo30, gb30, gl30, cl30, HG30⟩ := Kd.R_form HO422.out (by omega); (first | cases eo30 | (injection eo30 with ea_ en_ ec_; (first | subst ea_ | (injection ea_ with ea_; subst ea_)); subst ec_; clear en_)); have GB30 := Aside0.mk gb30; have GG30 := Aside0.mk HG30; clear gb30 gl30 HG30; (first | simp only [add_plain] at hx423_0 | skip); obtain ⟨hx30_0, hf30_0⟩ := Kd.R_celln 0 HO422.out ((ji27) : Int) p30 q30; replace p30 := eq_true p30; replace q30 := eq_true q30; obtain ⟨hy37_, hz37_⟩ := Kd.R_celln 0 HO422.out ((ji27) : Int) (of_decide_eq_true (by first | (with_reducible assumption) | assumption)) (of_decide_eq_true (by first | (with_reducible assumption) | assumption)); have HP37 := Kd.R_putg HO422.out ((ji27) : Int) (Int.tmod (wrap64 ((rd y420 (ji27)) + 1)) 1001)) | ((with_reducible refine gate_store (t := 3) (p := 54) rfl ?_); refine store_event (t := 3) (p := 54) (v := ?vo_w38) (w1 := (w35.setCell ⟨go30, ((ji27) : Int).toNat, none⟩ (.int .i64 (Int.tmod (wrap64 ((rd y420 (ji27)) + 1)) 1001)))) ?hg ?ho ?hn ?hr ?_; (case ho => rfl); (case hg => rfl); (case hn => rfl); (case hr => first | (go_simp; done) | (go_simp; rfl)); intro w38 hw; have hg : w35.grownBy w38 (some go30) := (by rw [hw]; exact HP37.2); have hp_ : Kd.R (Kd.int .i64) 3 w38 w.heap.size (fun k_ => some k_ ≠ (v407 : Value).ownBlock) (.slice (some ⟨go30, 0, none⟩) y420.length co36) y424 := (by rw [hw, Ny424.out]; exact HP37.1); clear HP37; have n0_ := Aside0.mk (Kd.V_afterv (v := (.slice (some ⟨go30, 0, none⟩) y420.length co36)) (v1 := (.slice (some ⟨go30, 0, none⟩) y420.length co36)) (ok := (fun k_ => some k_ ≠ (v407 : Value).ownBlock)) (by (with_reducible repeat (first | apply Kd.V_alloc | apply Kd.V_drewN | apply Kd.V_drew)); exact HO_3.out) hg (.inl rfl)); have n1_ := Aside0.mk (Kd.V_afterv (v := (.slice (some ⟨go30, 0, none⟩) y420.length co36)) (v1 := (.slice (some ⟨go30, 0, none⟩) y420.length co36)) (ok := (fun k_ => some k_ ≠ (v407 : Value).ownBlock)) (by (with_reducible repeat (first | apply Kd.V_alloc | apply Kd.V_drewN | apply Kd.V_drew)); exact HO_4.out) hg (.inl rfl)); have n2_ := Aside0.mk (Kd.R_after (v := (.slice (some ⟨go30, 0, none⟩) y420.length co36)) (v1 := (.slice (some ⟨go30, 0, none⟩) y420.length co36)) (ok := (fun _ => True)) (by (with_reducible repeat (first | apply Kd.R_alloc | apply Kd.R_drewN | apply Kd.R_drew)); exact HO_5.out) hg (.inl rfl)); have n3_ := Aside0.mk (hp_); have n4_ := Aside0.mk ((by rw [hw]; exact below_set (HB.out) GB30.out : Below w.heap.size w w38)); clear HO_3; clear HO_4; clear HO_5; clear HO422; clear HB; have HO_3 := n0_; have HO_4 := n1_; have HO_5 := n2_; have HO422 := n3_; have HB := n4_; clear n0_ n1_ n2_ n3_ n4_; clear hg hw hp_; obtain ⟨Ao39, co39, eo39⟩ := Kd.R_slice HO_5.out; subst eo39) | ((with_reducible refine gate_callee (f := 18) rfl ?_); refine goesL_ (some 58) rfl rfl Tryd.func18 (by kernel_rfl) rfl #[.slice Ao7 t400.length co7, .slice (some ⟨go30, 0, none⟩) y424.length co36, .slice Ao39 t406.length co39] rfl (by (try simp only [List.map_toArray, List.map_cons, List.map_nil]); first | done | (rw [show y424.length = y420.length from (Kd.R_reads' HO422.out).1.symm] <;> rfl) | rfl | (simp only [List.length_drop, List.length_take]; rfl)) ?_; (with_reducible refine (impl_MissingKeys.calls _ _ t400 _ _ y424 _ _ t406 t425 _ ?side1 ?side2 ?side3 ?side4 ?side5 ?side6 A31.out ?sideT).mono ?_); (case sideT => first | exact HT_.out.below blw_ HT_.out.pos | exact HT_.out); (case side1 => exact cw_ (Kd.V_reads' HO_3.out).2.2); (case side2 => exact (Kd.V_reads' HO_3.out).2.1); (case side3 => exact cw_ (Kd.R_reads' HO422.out).2.2); (case side4 => rw [show y424.length = y420.length from (Kd.R_reads' HO422.out).1.symm]; exact (Kd.R_reads' HO422.out).2.1); (case side5 => exact cw_ (Kd.R_reads' HO_5.out).2.2); (case side6 => exact (Kd.R_reads' HO_5.out).2.1); rintro e w40 ⟨v426, rfl, ho0, hb⟩; refine ⟨_, rfl, ?_⟩; have n0_ := Aside0.mk (Kd.V_elder' (by (with_reducible repeat (first | apply Kd.V_alloc | apply Kd.V_drewN | apply Kd.V_drew)); exact HO_3.out) (Kd.R_base ho0) hb); have n1_ := Aside0.mk (Kd.V_elder' (by (with_reducible repeat (first | apply Kd.V_alloc | apply Kd.V_drewN | apply Kd.V_drew)); exact HO_4.out) (Kd.R_base ho0) hb); have n2_ := Aside0.mk (Kd.R_elder' (by (with_reducible repeat (first | apply Kd.R_alloc | apply Kd.R_drewN | apply Kd.R_drew)); exact HO_5.out) (Kd.R_base ho0) hb); have n3_ := Aside0.mk (Kd.R_elder' (by (with_reducible repeat (first | apply Kd.R_alloc | apply Kd.R_drewN | apply Kd.R_drew)); exact HO422.out) (Kd.R_base ho0) hb); have n4_ := Aside0.mk (Kd.R_lower (Kd.R_new' (Kd.R_new' ho0 (Kd.R_lt (by (with_reducible repeat (first | apply Kd.R_alloc | apply Kd.R_drewN | apply Kd.R_drew)); exact HO_5.out))) (Kd.R_lt (by (with_reducible repeat (first | apply Kd.R_alloc | apply Kd.R_drewN | apply Kd.R_drew)); exact HO422.out))) (below_size blw_)); have n5_ := Aside0.mk (below_step blw_ hb); clear HO_3; clear HO_4; clear HO_5; clear HO422; clear HB; have HO_3 := n0_; have HO_4 := n1_; have HO_5 := n2_; have HO422 := n3_; have HO427 := n4_; have HB := n5_; clear n0_ n1_ n2_ n3_ n4_ n5_; (try clear hb); (try clear hb2); (try clear hk); (try clear hi); (try clear ho0)) | ((with_reducible refine gate_dst (N := 61) rfl ?_); (try (refine gate_guard (by rfl) ?_; dsimp only)); refine Kd.R_lit (Kd.int .i64) _ 3 ?hg (N := 61) ?hd (xs := ([ji27] : List Int)) (inner := [.int .i64 ji27]) (ok := fun _ => True) (okp := fun _ => True) ?hr ?hp (fun _ hk => hk) trivial (Below.refl _ _) (Nat.le_refl _) (by simp) ?_; (case hd => rfl); (case hg => rfl); (case hr => first | (go_simp; done) | (go_simp; rfl)); (case hp => exact (Reps.one (show Kd.M (Kd.int .i64) _ _ _ ji27 [.int .i64 ji27] from rfl) (Reps.none _ _))); intro v429 w41 ho42 hb hg_ hnew_; clear hg_ hnew_; (first | rw [← Ny428.out] at ho42 | (simp only [Int.reduceToNat] at ho42; rw [← Ny428.out] at ho42)); have n0_ := Aside0.mk (Kd.V_elder' (by (with_reducible repeat (first | apply Kd.V_alloc | apply Kd.V_drewN | apply Kd.V_drew)); exact HO_3.out) (Kd.R_base ho42) hb); have n1_ := Aside0.mk (Kd.V_elder' (by (with_reducible repeat (first | apply Kd.V_alloc | apply Kd.V_drewN | apply Kd.V_drew)); exact HO_4.out) (Kd.R_base ho42) hb); have n2_ := Aside0.mk (Kd.R_elder' (by (with_reducible repeat (first | apply Kd.R_alloc | apply Kd.R_drewN | apply Kd.R_drew)); exact HO_5.out) (Kd.R_base ho42) hb); have n3_ := Aside0.mk (Kd.R_elder' (by (with_reducible repeat (first | apply Kd.R_alloc | apply Kd.R_drewN | apply Kd.R_drew)); exact HO422.out) (Kd.R_base ho42) hb); have n4_ := Aside0.mk (Kd.R_elder' (by (with_reducible repeat (first | apply Kd.R_alloc | apply Kd.R_drewN | apply Kd.R_drew)); exact HO427.out) (Kd.R_base ho42) hb); have n5_ := Aside0.mk (Kd.R_lower (Kd.R_new' (Kd.R_new' (Kd.R_new' ho42 (Kd.R_lt (by (with_reducible repeat (first | apply Kd.R_alloc | apply Kd.R_drewN | apply Kd.R_drew)); exact HO_5.out))) (Kd.R_lt (by (with_reducible repeat (first | apply Kd.R_alloc | apply Kd.R_drewN | apply Kd.R_drew)); exact HO422.out))) (Kd.R_lt (by (with_reducible repeat (first | apply Kd.R_alloc | apply Kd.R_drewN | apply Kd.R_drew)); exact HO427.out))) (below_size blw_)); have n6_ := Aside0.mk (below_step blw_ hb); clear HO_3; clear HO_4; clear HO_5; clear HO422; clear HO427; clear HB; have HO_3 := n0_; have HO_4 := n1_; have HO_5 := n2_; have HO422 := n3_; have HO427 := n4_; have HO430 := n5_; have HB := n6_; clear n0_ n1_ n2_ n3_ n4_ n5_ n6_; clear hb ho42; obtain ⟨Ao43, co43, eo43⟩ := Kd.R_slice HO430.out; subst eo43) | ((with_reducible refine gate_callee (f := 10) rfl ?_); refine goesC_ (some 62) Tryd.func10 #[.slice Ao7 t400.length co7, .slice Ao43 y428.length co43] ?_; (with_reducible refine (impl_StaleTasks.calls _ _ t400 _ _ y428 t431 _ ?side1 ?side2 ?side3 ?side4 A32.out ?sideT).mono ?_); (case sideT => first | exact HT_.out.below blw_ HT_.out.pos | exact HT_.out); (case side1 => exact cw_ (Kd.V_reads' HO_3.out).2.2); (case side2 => exact (Kd.V_reads' HO_3.out).2.1); (case side3 => exact cw_ (Kd.R_reads' HO430.out).2.2); (case side4 => exact (Kd.R_reads' HO430.out).2.1); rintro e w44 ⟨v432, rfl, ho0, hb⟩; refine ⟨_, rfl, ?_⟩; have n0_ := Aside0.mk (Kd.V_elder' (by (with_reducible repeat (first | apply Kd.V_alloc | apply Kd.V_drewN | apply Kd.V_drew)); exact HO_3.out) (Kd.R_base ho0) hb); have n1_ := Aside0.mk (Kd.V_elder' (by (with_reducible repeat (first | apply Kd.V_alloc | apply Kd.V_drewN | apply Kd.V_drew)); exact HO_4.out) (Kd.R_base ho0) hb); have n2_ := Aside0.mk (Kd.R_elder' (by (with_reducible repeat (first | apply Kd.R_alloc | apply Kd.R_drewN | apply Kd.R_drew)); exact HO_5.out) (Kd.R_base ho0) hb); have n3_ := Aside0.mk (Kd.R_elder' (by (with_reducible repeat (first | apply Kd.R_alloc | apply Kd.R_drewN | apply Kd.R_drew)); exact HO422.out) (Kd.R_base ho0) hb); have n4_ := Aside0.mk (Kd.R_elder' (by (with_reducible repeat (first | apply Kd.R_alloc | apply Kd.R_drewN | apply Kd.R_drew)); exact HO427.out) (Kd.R_base ho0) hb); have n5_ := Aside0.mk (Kd.R_elder' (by (with_reducible repeat (first | apply Kd.R_alloc | apply Kd.R_drewN | apply Kd.R_drew)); exact HO430.out) (Kd.R_base ho0) hb); have n6_ := Aside0.mk (Kd.R_lower (Kd.R_new' (Kd.R_new' (Kd.R_new' (Kd.R_new' ho0 (Kd.R_lt (by (with_reducible repeat (first | apply Kd.R_alloc | apply Kd.R_drewN | apply Kd.R_drew)); exact HO_5.out))) (Kd.R_lt (by (with_reducible repeat (first | apply Kd.R_alloc | apply Kd.R_drewN | apply Kd.R_drew)); exact HO422.out))) (Kd.R_lt (by (with_reducible repeat (first | apply Kd.R_alloc | apply Kd.R_drewN | apply Kd.R_drew)); exact HO427.out))) (Kd.R_lt (by (with_reducible repeat (first | apply Kd.R_alloc | apply Kd.R_drewN | apply Kd.R_drew)); exact HO430.out))) (below_size blw_)); have n7_ := Aside0.mk (below_step blw_ hb); clear HO_3; clear HO_4; clear HO_5; clear HO422; clear HO427; clear HO430; clear HB; have HO_3 := n0_; have HO_4 := n1_; have HO_5 := n2_; have HO422 := n3_; have HO427 := n4_; have HO430 := n5_; have HO433 := n6_; have HB := n7_; clear n0_ n1_ n2_ n3_ n4_ n5_ n6_ n7_; (try clear hb); (try clear hb2); (try clear hk); (try clear hi); (try clear ho0)))
         go_loopg [10] kj4 (fun kq v10 w' => ∃ (x10_2 : Int), v10 = .int .i64 x10_2 ∧ Aside0 (laws_FnMissingKeysStale.l0 kq t425 t431 x10_2 = some r) ∧ Aside0 (kq ≤ kj4) ∧ Aside0 (Kd.R (Kd.int .i64) 3 w' w.heap.size (fun k_ => some k_ ≠ (v432 : Value).ownBlock) v426 t425) ∧ Aside0 (Kd.R (Kd.int .i64) 3 w' w.heap.size (fun k_ => some k_ ≠ (v426 : Value).ownBlock) v432 t431) ∧ Aside0 (Below w.heap.size w w'))
         case atStart => exact ⟨(0), (by first | rfl | (simp; done) | (simp [*]; done)), H', ⟨Nat.le_refl _⟩, ⟨by (with_reducible repeat (first | apply Kd.R_alloc | apply Kd.R_drewN | apply Kd.R_drew)); exact Kd.R_mono HO427.out (fun _ hk => hk.2)⟩, ⟨by (with_reducible repeat (first | apply Kd.R_alloc | apply Kd.R_drewN | apply Kd.R_drew)); exact Kd.R_mono HO433.out (fun _ hk => hk.1.2)⟩, ⟨blw_⟩⟩
         case round =>
          clear H'
          try clear c1
          try clear c2
          try clear c2b0
          try clear c2b1
          try clear p2
          try clear p3
          try clear q3
          try clear hx3
          try clear hf3
          try clear p4
          try clear q4
          try clear hx4
          try clear c5
          try clear p6
          try clear c10
          try clear c11
          try clear c12
          try clear c15
          try clear c16
          try clear c17
          try clear c18
          try clear c19
          try clear c25
          try clear c25b0
          try clear c25b1
          try clear c25b2
          try clear c26
          try clear c28
          try clear c28b0
          try clear c29
          try clear c29b0
          try clear p30
          try clear q30
          try clear hx30
          try clear hf30
          try clear p42
          try clear q42
          try clear hx42
          try clear hx30_0
          try clear hx423_0
          try clear p2
          try clear p30
          try clear p423
          try clear q30
          try clear q423
          obtain ⟨x10_2, rfl, HA, HK2, HO_8, HO_9, HB⟩ := hrel
          cases gk with
          | zero => exact absurd HA.out (by simp [laws_FnMissingKeysStale.l0])
          | succ k2 =>
           have H := HA.out
           clear HA
           simp only [laws_FnMissingKeysStale.l0] at H
           by_cases c45 : x10_2 < (t425.length : Int)
           ·rw [if_pos c45] at H
            have c45b0 : decide (x10_2 < (t425.length : Int)) = true := decide_eq_true c45
            clear c45
            by_cases c46 : 0 ≤ x10_2
            ·rw [if_pos c46] at H
             have c46b0 : decide (0 ≤ x10_2) = true := decide_eq_true c46
             clear c46
             replace H := Option.bind_eq_some_iff.mp H
             obtain ⟨t435, A470, H⟩ := H
             replace H : (if t435 = true then (laws_FnMissingKeysStale.l0 k2 t425 t431 (wrap64 (x10_2 + 1))) else (some false)) = some r := H
             have A47 := Aside0.mk A470
             clear A470
             by_cases c48 : t435 = true
             ·subst c48
              have H1 : (laws_FnMissingKeysStale.l0 k2 t425 t431 (wrap64 (x10_2 + 1))) = some r := by rw [if_pos rfl] at H; exact H
              clear H
              have H := H1
              clear H1
              have H' := Aside0.mk H
              clear H
              obtain ⟨Ao49, co49, eo49⟩ := Kd.R_slice HO_8.out
              subst eo49
              have p434 : 0 ≤ (x10_2 : Int) := of_decide_eq_true (by first | (with_reducible assumption) | assumption)
              have q434 : x10_2 < (t425.length : Int) := of_decide_eq_true (by first | (with_reducible assumption) | assumption)
              obtain ⟨ad434, e434, hx434_0⟩ := Kd.at_int (Kd.R_reads' HO_8.out).2.2 x10_2 p434 q434
              cases e434
              replace p434 := eq_true p434
              replace q434 := eq_true q434
              obtain ⟨Ao50, co50, eo50⟩ := Kd.R_slice HO_9.out
              subst eo50
              go_wp2_with (first | ((with_reducible refine gate_callee (f := 13) rfl ?_); refine goesC_ (some 74) Tryd.func13 #[.slice Ao50 t431.length co50, .int .i64 (rd t425 x10_2)] ?_; (with_reducible refine (laws_isIn.calls k2 _ _ t431 (rd t425 x10_2) true _ ?side1 ?side2 A47.out).mono ?_); (case side1 => exact cw_ (Kd.R_reads' HO_9.out).2.2); (case side2 => exact (Kd.R_reads' HO_9.out).2.1); rintro e w' ⟨rfl, ⟨nd, rfl⟩⟩; refine ⟨_, rfl, ?_⟩))
              go_roundg k2
              case measure => have := HJ4.out; have := HK2.out; omega
              case rel => exact ⟨(wrap64 (x10_2 + 1)), (by first | rfl | (simp; done) | (simp [*]; done)), H', ⟨by have := HJ4.out; have := HK2.out; omega⟩, ⟨rw_ HO_8.out⟩, ⟨rw_ HO_9.out⟩, ⟨blw_⟩⟩
             ·replace c48 := Bool.eq_false_iff.mpr c48
              subst c48
              have H1 : (some false) = some r := by rw [if_neg (show ¬ (false = true) by decide)] at H; exact H
              clear H
              have H := H1
              clear H1
              obtain rfl := Option.some.inj H
              obtain ⟨Ao51, co51, eo51⟩ := Kd.R_slice HO_8.out
              subst eo51
              have p434 : 0 ≤ (x10_2 : Int) := of_decide_eq_true (by first | (with_reducible assumption) | assumption)
              have q434 : x10_2 < (t425.length : Int) := of_decide_eq_true (by first | (with_reducible assumption) | assumption)
              obtain ⟨ad434, e434, hx434_0⟩ := Kd.at_int (Kd.R_reads' HO_8.out).2.2 x10_2 p434 q434
              cases e434
              replace p434 := eq_true p434
              replace q434 := eq_true q434
              obtain ⟨Ao52, co52, eo52⟩ := Kd.R_slice HO_9.out
              subst eo52
              go_wp2_with (first | ((with_reducible refine gate_callee (f := 13) rfl ?_); refine goesC_ (some 74) Tryd.func13 #[.slice Ao52 t431.length co52, .int .i64 (rd t425 x10_2)] ?_; (with_reducible refine (laws_isIn.calls k2 _ _ t431 (rd t425 x10_2) false _ ?side1 ?side2 A47.out).mono ?_); (case side1 => exact cw_ (Kd.R_reads' HO_9.out).2.2); (case side2 => exact (Kd.R_reads' HO_9.out).2.1); rintro e w' ⟨rfl, ⟨nd, rfl⟩⟩; refine ⟨_, rfl, ?_⟩))
              go_ret
              exact ⟨by first | rfl | (simp [errW_none, errW_some] <;> rfl) | (simp only [← hji27]; first | rfl | (simp [errW_none, errW_some] <;> rfl)) | (simp [*, errW_none, errW_some] <;> rfl), blw_⟩
            ·rw [if_neg c46] at H
             exact absurd H (by simp)
           ·rw [if_neg c45] at H
            have c45b0 : decide (x10_2 < (t425.length : Int)) = false := decide_eq_false c45
            clear c45
            obtain rfl := Option.some.inj H
            obtain ⟨Ao53, co53, eo53⟩ := Kd.R_slice HO_8.out
            subst eo53
            go_wp2
            go_ret
            exact ⟨by first | rfl | (simp [errW_none, errW_some] <;> rfl) | (simp only [← hji27]; first | rfl | (simp [errW_none, errW_some] <;> rfl)) | (simp [*, errW_none, errW_some] <;> rfl), blw_⟩
        ·rw [if_neg c29] at H
         exact absurd H (by simp)
       ·rw [if_neg c28] at H
        exact absurd H (by simp)
      ·rw [if_neg c26] at H
       exact absurd H (by simp)

/-- THE ONE PURE STATEMENT of laws_FnMissingKeysStale: yours. -/
def laws_FnMissingKeysStale.Pure : Prop := ∀ (l0 : List Int), l0.length ≤ maxLen → l0.length * 1 ≤ 140737488351232 → (∀ x ∈ l0, (Lit.int .u8 x).wf = true) → ∃ k, laws_FnMissingKeysStale.f k l0 = some true
theorem laws_FnMissingKeysStale.walk (P : laws_FnMissingKeysStale.Pure) (a0 : Option Addr) (len0 cap0 : Nat) (z0 : List Int) (w : World) (w0 : (a0 = none ∧ len0 = 0 ∧ cap0 = 0 ∧ z0 = []) ∨ ∃ x, a0 = some x ∧ len0 ≤ cap0 ∧ cap0 ≤ maxLen ∧ z0.length = cap0 ∧ (∀ i, i < z0.length → w.cell? (x.add i) = some (.int .u8 (z0.getD i 0))) ∧ ∀ n ∈ z0, (Lit.int .u8 n).wf = true) (y0 : len0 * 1 ≤ 140737488351232) (hT_ : Tab w) :
  Calls Tryd.prog 5 #[.slice a0 len0 cap0] w fun e w' => e = .returned (.bool true) ∧ Below w.heap.size w w' := by
 obtain ⟨l0, rfl, hr0, hm0, hw0, hc0⟩ := ReadsInt.ofRowC w0
 obtain ⟨k, h⟩ := P l0 hm0 y0 hw0
 refine (laws_FnMissingKeysStale.calls k _ _ l0 true w (Kd.C_of_reads (d := (0 : Int)) (h1 := fun _ => rfl) hr0) hc0 h hT_).mono ?_
 rintro e w' ⟨rfl, hd⟩
 exact ⟨rfl, hd⟩

end Go.Proofs.YtgdoajmgheokbaaDoor.G
