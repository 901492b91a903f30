-- SLIM
-- Written by hyb.py, a driver of this session round the print.py of the kit. Lean checks it.
import Derived.Test.YtdihblbfafhhnaaDoorWRepsOne
import Derived.Test.YtdihblbfafhhnaaDoorG0
import Derived.Test.YtdihblbfafhhnaaDoorG2
import Derived.Test.YtdihblbfafhhnaaDoorG4
import Derived.Test.YtdihblbfafhhnaaDoorHDraw
import Derived.Test.YtdihblbfafhhnaaDoorHKeys
namespace Go.Proofs.YtdihblbfafhhnaaDoor.G
open Go.RowKit Go.Proofs.YtdihblbfafhhnaaDoorW.PrintWords Go.Proofs.YtdihblbfafhhnaaDoorW.PrintLast Go.Proofs.YtdihblbfafhhnaaDoorW.PrintMore
attribute [local go_sem] max2_int min2_int max_two min_two max_three min_three max_four min_four   -- for this text's walks alone
set_option linter.unusedVariables false
set_option linter.unusedSimpArgs false

/-! ### laws_FnTaskKeys: function 3 -/
mutual
def laws_FnTaskKeys.j0 : Nat → List (S31) → List Int → List Int → Bool → Option (Bool)
 | 0, _, _, _, _ => none
 | k + 1, x3, x4, x5, x28 => if x28 = true then ((spec_TaskKeys.f k x3 x4).bind fun t291 => ((laws_equalInts.f k x5 t291).bind fun t294 => (some t294))) else (laws_FnTaskKeys.l0 k x3 x5 0)
def laws_FnTaskKeys.l0 : Nat → List (S31) → List Int → Int → Option (Bool)
 | 0, _, _, _ => none
 | k + 1, x3, x5, x6 => if x6 < (x5.length : Int) then (if 0 ≤ x6 then (if (rd x5 x6) < 0 then (some false) else (if (rd x5 x6) ≥ 10007 then (some false) else (laws_FnTaskKeys.l0 k x3 x5 (wrap64 (x6 + 1))))) else (none)) else (some ((x5.length : Int) == (x3.length : Int)))
end
def laws_FnTaskKeys.f (k : Nat) (l0 : List Int) : Option (Bool) := if (l0.length : Int) > 1048576 then (some true) else ((spec_DrawTaskKeys.f l0).bind fun bt278 => ((impl_TaskKeys.f bt278.1 bt278.2).bind fun t284 => ((spec_TaskKeys.f k bt278.1 bt278.2).bind fun t287 => ((laws_equalInts.f k t284 t287).bind fun t290 => (if t290 = true then (laws_FnTaskKeys.j0 k bt278.1 bt278.2 t284 ((t284.length : Int) == 0)) else (laws_FnTaskKeys.j0 k bt278.1 bt278.2 t284 true))))))
set_option maxHeartbeats 8000000 in
set_option maxRecDepth 100000 in
theorem laws_FnTaskKeys.calls (k : Nat) (A0 : Option Addr) (c0 : Nat) (l0 : List Int) (r : Bool) (w : World) (hr0 : Kd.C (Kd.int .u8) w A0 l0.length l0) (hc0 : l0.length ≤ c0) (h : laws_FnTaskKeys.f k l0 = some r) (hT_ : Tab w) :
  Calls Tryd.prog 3 #[.slice A0 l0.length c0] w fun e w' => e = .returned (.bool r) ∧ Below w.heap.size w w' := by
 have HT_ := Aside0.mk hT_
 clear hT_
 have HR0 := Aside0.mk hr0
 have HC0 := Aside0.mk hc0
 clear hr0 hc0
 have HB := Aside0.mk (Below.refl w.heap.size w)
 have H : (if (l0.length : Int) > 1048576 then (some true) else ((spec_DrawTaskKeys.f l0).bind fun bt278 => ((impl_TaskKeys.f bt278.1 bt278.2).bind fun t284 => ((spec_TaskKeys.f k bt278.1 bt278.2).bind fun t287 => ((laws_equalInts.f k t284 t287).bind fun t290 => (if t290 = true then (laws_FnTaskKeys.j0 k bt278.1 bt278.2 t284 ((t284.length : Int) == 0)) else (laws_FnTaskKeys.j0 k bt278.1 bt278.2 t284 true))))))) = some r := h
 clear h
 by_cases c2 : (l0.length : Int) > 1048576
 ·rw [if_pos c2] at H
  have c2b0 : decide (1048576 < (l0.length : Int)) = true := decide_eq_true c2
  have c2b1 : decide (1048576 < l0.length) = true := decide_eq_true (by omega)
  clear c2
  obtain rfl := Option.some.inj H
  go_enter Tryd.func3, Tryd.ntmps3
  go_wp2
  go_ret
  exact ⟨by first | rfl | (simp [errW_none, errW_some] <;> rfl) | (simp [*, errW_none, errW_some] <;> rfl), blw_⟩
 ·rw [if_neg c2] at H
  have c2b0 : decide (1048576 < (l0.length : Int)) = false := decide_eq_false c2
  have c2b1 : decide (1048576 < l0.length) = false := decide_eq_false (by omega)
  clear c2
  replace H := Option.bind_eq_some_iff.mp H
  obtain ⟨⟨t278, t281⟩, A30, H⟩ := H
  replace H : ((impl_TaskKeys.f t278 t281).bind fun t284 => ((spec_TaskKeys.f k t278 t281).bind fun t287 => ((laws_equalInts.f k t284 t287).bind fun t290 => (if t290 = true then (laws_FnTaskKeys.j0 k t278 t281 t284 ((t284.length : Int) == 0)) else (laws_FnTaskKeys.j0 k t278 t281 t284 true))))) = some r := H
  have A3 := Aside0.mk A30
  clear A30
  replace H := Option.bind_eq_some_iff.mp H
  obtain ⟨t284, A40, H⟩ := H
  replace H : ((spec_TaskKeys.f k t278 t281).bind fun t287 => ((laws_equalInts.f k t284 t287).bind fun t290 => (if t290 = true then (laws_FnTaskKeys.j0 k t278 t281 t284 ((t284.length : Int) == 0)) else (laws_FnTaskKeys.j0 k t278 t281 t284 true)))) = some r := H
  have A4 := Aside0.mk A40
  clear A40
  have HC5 := Aside0.mk H
  clear H
  go_enter Tryd.func3, Tryd.ntmps3
  go_upto_region 5 with (first | ((with_reducible refine gate_callee (f := 9) rfl ?_); refine goesC_ (some 12) Tryd.func9 #[.slice A0 l0.length c0] ?_; (with_reducible refine (spec_DrawTaskKeys.calls _ _ l0 t278 t281 _ ?side1 ?side2 A3.out).mono ?_); (case side1 => exact cw_ HR0.out); (case side2 => exact HC0.out); rintro e w6 ⟨v279, v282, rfl, ho0, ho1, hb⟩; refine ⟨_, rfl, ?_⟩; have n0_ := Aside0.mk (Kd.V_lower (Kd.V_mono (ok' := fun k_ => True) ho0 (fun k_ hk_ => trivial)) (below_size blw_)); have n1_ := Aside0.mk (Kd.V_lower (Kd.V_mono (ok' := fun k_ => True) ho1 (fun k_ hk_ => trivial)) (below_size blw_)); have n2_ := Aside0.mk (below_step blw_ hb); clear HB; have HO280 := n0_; have HO283 := n1_; have HB := n2_; clear n0_ n1_ n2_; (try clear hb); (try clear hb2); (try clear hk); (try clear hi); (try clear ho0); (try clear ho1); obtain ⟨Ao7, co7, eo7⟩ := Kd.V_slice HO280.out; subst eo7; obtain ⟨Ao8, co8, eo8⟩ := Kd.V_slice HO283.out; subst eo8) | ((with_reducible refine gate_callee (f := 10) rfl ?_); refine goesC_ (some 17) Tryd.func10 #[.slice Ao7 t278.length co7, .slice Ao8 t281.length co8] ?_; (with_reducible refine (impl_TaskKeys.calls _ _ t278 _ _ t281 t284 _ ?side1 ?side2 ?side3 ?side4 A4.out ?sideT).mono ?_); (case sideT => first | exact HT_.out.below blw_ HT_.out.pos | exact HT_.out); (case side1 => exact cw_ (Kd.V_reads' HO280.out).2.2); (case side2 => exact (Kd.V_reads' HO280.out).2.1); (case side3 => exact cw_ (Kd.V_reads' HO283.out).2.2); (case side4 => exact (Kd.V_reads' HO283.out).2.1); rintro e w9 ⟨v285, rfl, ho0, hb⟩; refine ⟨_, rfl, ?_⟩; have n0_ := Aside0.mk (Kd.V_elder' (by (with_reducible repeat (first | apply Kd.V_alloc | apply Kd.V_drewN | apply Kd.V_drew)); exact HO280.out) (Kd.R_base ho0) hb); have n1_ := Aside0.mk (Kd.V_elder' (by (with_reducible repeat (first | apply Kd.V_alloc | apply Kd.V_drewN | apply Kd.V_drew)); exact HO283.out) (Kd.R_base ho0) hb); have n2_ := Aside0.mk (Kd.R_lower ho0 (below_size blw_)); have n3_ := Aside0.mk (below_step blw_ hb); clear HO280; clear HO283; clear HB; have HO280 := n0_; have HO283 := n1_; have HO286 := n2_; have HB := n3_; clear n0_ n1_ n2_ n3_; (try clear hb); (try clear hb2); (try clear hk); (try clear hi); (try clear ho0)))
  (try simp only [Act.put, List.setIfInBounds_toArray, List.set_cons_zero, List.set_cons_succ])
  go_cut [28] (fun v28 wc => ∃ (kq : Nat) (x28_4 : Bool), v28 = .bool x28_4 ∧ Aside0 (laws_FnTaskKeys.j0 kq t278 t281 t284 x28_4 = some r) ∧ Aside0 (kq ≤ k) ∧ Aside0 (Kd.V k31 31 wc w.heap.size (fun k_ => some k_ ≠ (v285 : Value).ownBlock) (.slice Ao7 t278.length co7) t278) ∧ Aside0 (Kd.V (Kd.int .i64) 3 wc w.heap.size (fun k_ => some k_ ≠ (v285 : Value).ownBlock) (.slice Ao8 t281.length co8) t281) ∧ Aside0 (Kd.R (Kd.int .i64) 3 wc w.heap.size (fun _ => True) v285 t284) ∧ Aside0 (Below w.heap.size w wc))
  case first =>
   have H := HC5.out
   clear HC5
   replace H := Option.bind_eq_some_iff.mp H
   obtain ⟨t287, A100, H⟩ := H
   replace H : ((laws_equalInts.f k t284 t287).bind fun t290 => (if t290 = true then (laws_FnTaskKeys.j0 k t278 t281 t284 ((t284.length : Int) == 0)) else (laws_FnTaskKeys.j0 k t278 t281 t284 true))) = some r := H
   have A10 := Aside0.mk A100
   clear A100
   replace H := Option.bind_eq_some_iff.mp H
   obtain ⟨t290, A110, H⟩ := H
   replace H : (if t290 = true then (laws_FnTaskKeys.j0 k t278 t281 t284 ((t284.length : Int) == 0)) else (laws_FnTaskKeys.j0 k t278 t281 t284 true)) = some r := H
   have A11 := Aside0.mk A110
   clear A110
   by_cases c12 : t290 = true
   ·subst c12
    have H1 : (laws_FnTaskKeys.j0 k t278 t281 t284 ((t284.length : Int) == 0)) = some r := by rw [if_pos rfl] at H; exact H
    clear H
    have H := H1
    clear H1
    have H' := Aside0.mk H
    clear H
    go_wp2_with (first | ((with_reducible refine gate_callee (f := 12) rfl ?_); refine goesC_ (some 21) Tryd.func12 #[.slice Ao7 t278.length co7, .slice Ao8 t281.length co8] ?_; (with_reducible refine (spec_TaskKeys.calls k _ _ t278 _ _ t281 t287 _ ?side1 ?side2 ?side3 ?side4 A10.out).mono ?_); (case side1 => exact cw_ (Kd.V_reads' HO280.out).2.2); (case side2 => exact (Kd.V_reads' HO280.out).2.1); (case side3 => exact cw_ (Kd.V_reads' HO283.out).2.2); (case side4 => exact (Kd.V_reads' HO283.out).2.1); rintro e w13 ⟨v288, rfl, ho0, hb⟩; refine ⟨_, rfl, ?_⟩; have n0_ := Aside0.mk (Kd.V_elder' (by (with_reducible repeat (first | apply Kd.V_alloc | apply Kd.V_drewN | apply Kd.V_drew)); exact HO280.out) (Kd.R_base ho0) hb); have n1_ := Aside0.mk (Kd.V_elder' (by (with_reducible repeat (first | apply Kd.V_alloc | apply Kd.V_drewN | apply Kd.V_drew)); exact HO283.out) (Kd.R_base ho0) hb); have n2_ := Aside0.mk (Kd.R_elder' (by (with_reducible repeat (first | apply Kd.R_alloc | apply Kd.R_drewN | apply Kd.R_drew)); exact HO286.out) (Kd.R_base ho0) hb); have n3_ := Aside0.mk (Kd.R_lower (Kd.R_new' ho0 (Kd.R_lt (by (with_reducible repeat (first | apply Kd.R_alloc | apply Kd.R_drewN | apply Kd.R_drew)); exact HO286.out))) (below_size blw_)); have n4_ := Aside0.mk (below_step blw_ hb); clear HO280; clear HO283; clear HO286; clear HB; have HO280 := n0_; have HO283 := n1_; have HO286 := n2_; have HO289 := n3_; have HB := n4_; clear n0_ n1_ n2_ n3_ n4_; (try clear hb); (try clear hb2); (try clear hk); (try clear hi); (try clear ho0); obtain ⟨Ao14, co14, eo14⟩ := Kd.R_slice HO286.out; subst eo14; obtain ⟨Ao15, co15, eo15⟩ := Kd.R_slice HO289.out; subst eo15) | ((with_reducible refine gate_callee (f := 11) rfl ?_); refine goesC_ (some 22) Tryd.func11 #[.slice Ao14 t284.length co14, .slice Ao15 t287.length co15] ?_; (with_reducible refine (laws_equalInts.calls k _ _ t284 _ _ t287 true _ ?side1 ?side2 ?side3 ?side4 A11.out).mono ?_); (case side1 => exact cw_ (Kd.R_reads' HO286.out).2.2); (case side2 => exact (Kd.R_reads' HO286.out).2.1); (case side3 => exact cw_ (Kd.R_reads' HO289.out).2.2); (case side4 => exact (Kd.R_reads' HO289.out).2.1); rintro e w' ⟨rfl, ⟨nd, rfl⟩⟩; refine ⟨_, rfl, ?_⟩))
    go_meet
    case rel => exact ⟨_, (((t284.length : Int) == 0)), (by first | rfl | (simp; done) | (simp [*]; done)), H', ⟨by first | omega | exact Nat.le_refl _⟩, ⟨by (with_reducible repeat (first | apply Kd.V_alloc | apply Kd.V_drewN | apply Kd.V_drew)); exact Kd.V_mono HO280.out (fun _ hk => hk.1.2)⟩, ⟨by (with_reducible repeat (first | apply Kd.V_alloc | apply Kd.V_drewN | apply Kd.V_drew)); exact Kd.V_mono HO283.out (fun _ hk => hk.1.2)⟩, ⟨by (with_reducible repeat (first | apply Kd.R_alloc | apply Kd.R_drewN | apply Kd.R_drew)); exact Kd.R_mono HO286.out (fun _ hk => trivial)⟩, ⟨blw_⟩⟩
   ·replace c12 := Bool.eq_false_iff.mpr c12
    subst c12
    have H1 : (laws_FnTaskKeys.j0 k t278 t281 t284 true) = some r := by rw [if_neg (show ¬ (false = true) by decide)] at H; exact H
    clear H
    have H := H1
    clear H1
    have H' := Aside0.mk H
    clear H
    go_wp2_with (first | ((with_reducible refine gate_callee (f := 12) rfl ?_); refine goesC_ (some 21) Tryd.func12 #[.slice Ao7 t278.length co7, .slice Ao8 t281.length co8] ?_; (with_reducible refine (spec_TaskKeys.calls k _ _ t278 _ _ t281 t287 _ ?side1 ?side2 ?side3 ?side4 A10.out).mono ?_); (case side1 => exact cw_ (Kd.V_reads' HO280.out).2.2); (case side2 => exact (Kd.V_reads' HO280.out).2.1); (case side3 => exact cw_ (Kd.V_reads' HO283.out).2.2); (case side4 => exact (Kd.V_reads' HO283.out).2.1); rintro e w16 ⟨v288, rfl, ho0, hb⟩; refine ⟨_, rfl, ?_⟩; have n0_ := Aside0.mk (Kd.V_elder' (by (with_reducible repeat (first | apply Kd.V_alloc | apply Kd.V_drewN | apply Kd.V_drew)); exact HO280.out) (Kd.R_base ho0) hb); have n1_ := Aside0.mk (Kd.V_elder' (by (with_reducible repeat (first | apply Kd.V_alloc | apply Kd.V_drewN | apply Kd.V_drew)); exact HO283.out) (Kd.R_base ho0) hb); have n2_ := Aside0.mk (Kd.R_elder' (by (with_reducible repeat (first | apply Kd.R_alloc | apply Kd.R_drewN | apply Kd.R_drew)); exact HO286.out) (Kd.R_base ho0) hb); have n3_ := Aside0.mk (Kd.R_lower (Kd.R_new' ho0 (Kd.R_lt (by (with_reducible repeat (first | apply Kd.R_alloc | apply Kd.R_drewN | apply Kd.R_drew)); exact HO286.out))) (below_size blw_)); have n4_ := Aside0.mk (below_step blw_ hb); clear HO280; clear HO283; clear HO286; clear HB; have HO280 := n0_; have HO283 := n1_; have HO286 := n2_; have HO289 := n3_; have HB := n4_; clear n0_ n1_ n2_ n3_ n4_; (try clear hb); (try clear hb2); (try clear hk); (try clear hi); (try clear ho0); obtain ⟨Ao17, co17, eo17⟩ := Kd.R_slice HO286.out; subst eo17; obtain ⟨Ao18, co18, eo18⟩ := Kd.R_slice HO289.out; subst eo18) | ((with_reducible refine gate_callee (f := 11) rfl ?_); refine goesC_ (some 22) Tryd.func11 #[.slice Ao17 t284.length co17, .slice Ao18 t287.length co18] ?_; (with_reducible refine (laws_equalInts.calls k _ _ t284 _ _ t287 false _ ?side1 ?side2 ?side3 ?side4 A11.out).mono ?_); (case side1 => exact cw_ (Kd.R_reads' HO286.out).2.2); (case side2 => exact (Kd.R_reads' HO286.out).2.1); (case side3 => exact cw_ (Kd.R_reads' HO289.out).2.2); (case side4 => exact (Kd.R_reads' HO289.out).2.1); rintro e w' ⟨rfl, ⟨nd, rfl⟩⟩; refine ⟨_, rfl, ?_⟩))
    go_meet
    case rel => exact ⟨_, (true), (by first | rfl | (simp; done) | (simp [*]; done)), H', ⟨by first | omega | exact Nat.le_refl _⟩, ⟨by (with_reducible repeat (first | apply Kd.V_alloc | apply Kd.V_drewN | apply Kd.V_drew)); exact Kd.V_mono HO280.out (fun _ hk => hk.1.2)⟩, ⟨by (with_reducible repeat (first | apply Kd.V_alloc | apply Kd.V_drewN | apply Kd.V_drew)); exact Kd.V_mono HO283.out (fun _ hk => hk.1.2)⟩, ⟨by (with_reducible repeat (first | apply Kd.R_alloc | apply Kd.R_drewN | apply Kd.R_drew)); exact Kd.R_mono HO286.out (fun _ hk => trivial)⟩, ⟨blw_⟩⟩
  case rest =>
   clear HC5
   try clear c1
   try clear c2
   try clear c2b0
   try clear c2b1
   try clear p2
   try clear c3
   try clear c9
   try clear c10
   try clear c11
   try clear c12
   obtain ⟨kq, x28_4, rfl, HA, HJ4, HO_3, HO_4, HO_5, HB⟩ := hcut
   cases kq with
   | zero => exact absurd HA.out (by simp [laws_FnTaskKeys.j0])
   | succ kj4 =>
    have H := HA.out
    clear HA
    simp only [laws_FnTaskKeys.j0] at H
    by_cases c19 : x28_4 = true
    ·subst c19
     have H1 : ((spec_TaskKeys.f kj4 t278 t281).bind fun t291 => ((laws_equalInts.f kj4 t284 t291).bind fun t294 => (some t294))) = some r := by rw [if_pos rfl] at H; exact H
     clear H
     have H := H1
     clear H1
     replace H := Option.bind_eq_some_iff.mp H
     obtain ⟨t291, A200, H⟩ := H
     replace H : ((laws_equalInts.f kj4 t284 t291).bind fun t294 => (some t294)) = some r := H
     have A20 := Aside0.mk A200
     clear A200
     replace H := Option.bind_eq_some_iff.mp H
     obtain ⟨t294, A210, H⟩ := H
     replace H : (some t294) = some r := H
     have A21 := Aside0.mk A210
     clear A210
     obtain rfl := Option.some.inj H
     go_wp2_with (first | ((with_reducible refine gate_callee (f := 12) rfl ?_); refine goesC_ (some 32) Tryd.func12 #[.slice Ao7 t278.length co7, .slice Ao8 t281.length co8] ?_; (with_reducible refine (spec_TaskKeys.calls kj4 _ _ t278 _ _ t281 t291 _ ?side1 ?side2 ?side3 ?side4 A20.out).mono ?_); (case side1 => exact cw_ (Kd.V_reads' HO_3.out).2.2); (case side2 => exact (Kd.V_reads' HO_3.out).2.1); (case side3 => exact cw_ (Kd.V_reads' HO_4.out).2.2); (case side4 => exact (Kd.V_reads' HO_4.out).2.1); rintro e w22 ⟨v292, rfl, ho0, hb⟩; refine ⟨_, rfl, ?_⟩; have n0_ := Aside0.mk (Kd.V_elder' (by (with_reducible repeat (first | apply Kd.V_alloc | apply Kd.V_drewN | apply Kd.V_drew)); exact HO_3.out) (Kd.R_base ho0) hb); have n1_ := Aside0.mk (Kd.V_elder' (by (with_reducible repeat (first | apply Kd.V_alloc | apply Kd.V_drewN | apply Kd.V_drew)); exact HO_4.out) (Kd.R_base ho0) hb); have n2_ := Aside0.mk (Kd.R_elder' (by (with_reducible repeat (first | apply Kd.R_alloc | apply Kd.R_drewN | apply Kd.R_drew)); exact HO_5.out) (Kd.R_base ho0) hb); have n3_ := Aside0.mk (Kd.R_lower (Kd.R_new' ho0 (Kd.R_lt (by (with_reducible repeat (first | apply Kd.R_alloc | apply Kd.R_drewN | apply Kd.R_drew)); exact HO_5.out))) (below_size blw_)); have n4_ := Aside0.mk (below_step blw_ hb); clear HO_3; clear HO_4; clear HO_5; clear HB; have HO_3 := n0_; have HO_4 := n1_; have HO_5 := n2_; have HO293 := n3_; have HB := n4_; clear n0_ n1_ n2_ n3_ n4_; (try clear hb); (try clear hb2); (try clear hk); (try clear hi); (try clear ho0); obtain ⟨Ao23, co23, eo23⟩ := Kd.R_slice HO_5.out; subst eo23; obtain ⟨Ao24, co24, eo24⟩ := Kd.R_slice HO293.out; subst eo24) | ((with_reducible refine gate_callee (f := 11) rfl ?_); refine goesC_ (some 33) Tryd.func11 #[.slice Ao23 t284.length co23, .slice Ao24 t291.length co24] ?_; (with_reducible refine (laws_equalInts.calls kj4 _ _ t284 _ _ t291 t294 _ ?side1 ?side2 ?side3 ?side4 A21.out).mono ?_); (case side1 => exact cw_ (Kd.R_reads' HO_5.out).2.2); (case side2 => exact (Kd.R_reads' HO_5.out).2.1); (case side3 => exact cw_ (Kd.R_reads' HO293.out).2.2); (case side4 => exact (Kd.R_reads' HO293.out).2.1); rintro e w' ⟨rfl, ⟨nd, rfl⟩⟩; refine ⟨_, rfl, ?_⟩))
     go_ret
     exact ⟨by first | rfl | (simp [errW_none, errW_some] <;> rfl) | (simp [*, errW_none, errW_some] <;> rfl), blw_⟩
    ·replace c19 := Bool.eq_false_iff.mpr c19
     subst c19
     have H1 : (laws_FnTaskKeys.l0 kj4 t278 t284 0) = some r := by rw [if_neg (show ¬ (false = true) by decide)] at H; exact H
     clear H
     have H := H1
     clear H1
     have H' := Aside0.mk H
     clear H
     go_wp2
     go_loopg [6] kj4 (fun kq v6 w' => ∃ (x6_2 : Int), v6 = .int .i64 x6_2 ∧ Aside0 (laws_FnTaskKeys.l0 kq t278 t284 x6_2 = some r) ∧ Aside0 (kq ≤ kj4) ∧ Aside0 (Kd.V k31 31 w' w.heap.size (fun k_ => some k_ ≠ (v285 : Value).ownBlock) (.slice Ao7 t278.length co7) t278) ∧ Aside0 (Kd.R (Kd.int .i64) 3 w' w.heap.size (fun _ => True) v285 t284) ∧ Aside0 (Below w.heap.size w w'))
     case atStart => exact ⟨(0), (by first | rfl | (simp; done) | (simp [*]; done)), H', ⟨Nat.le_refl _⟩, ⟨by (with_reducible repeat (first | apply Kd.V_alloc | apply Kd.V_drewN | apply Kd.V_drew)); exact HO_3.out⟩, ⟨rw_ HO_5.out⟩, ⟨blw_⟩⟩
     case round =>
      clear H'
      try clear c1
      try clear c2
      try clear c2b0
      try clear c2b1
      try clear p2
      try clear c3
      try clear c9
      try clear c10
      try clear c11
      try clear c12
      try clear c19
      try clear p2
      obtain ⟨x6_2, rfl, HA, HK2, HO_3, HO_5, HB⟩ := hrel
      cases gk with
      | zero => exact absurd HA.out (by simp [laws_FnTaskKeys.l0])
      | succ k2 =>
       have H := HA.out
       clear HA
       simp only [laws_FnTaskKeys.l0] at H
       by_cases c25 : x6_2 < (t284.length : Int)
       ·rw [if_pos c25] at H
        have c25b0 : decide (x6_2 < (t284.length : Int)) = true := decide_eq_true c25
        clear c25
        by_cases c26 : 0 ≤ x6_2
        ·rw [if_pos c26] at H
         have c26b0 : decide (0 ≤ x6_2) = true := decide_eq_true c26
         clear c26
         by_cases c27 : (rd t284 x6_2) < 0
         ·rw [if_pos c27] at H
          have c27b0 : decide ((rd t284 x6_2) < 0) = true := decide_eq_true c27
          clear c27
          obtain rfl := Option.some.inj H
          obtain ⟨Ao28, co28, eo28⟩ := Kd.R_slice HO_5.out
          subst eo28
          have p295 : 0 ≤ (x6_2 : Int) := of_decide_eq_true (by first | (with_reducible assumption) | assumption)
          have q295 : x6_2 < (t284.length : Int) := of_decide_eq_true (by first | (with_reducible assumption) | assumption)
          obtain ⟨ad295, e295, hx295_0⟩ := Kd.at_int (Kd.R_reads' HO_5.out).2.2 x6_2 p295 q295
          cases e295
          replace p295 := eq_true p295
          replace q295 := eq_true q295
          go_wp2
          go_ret
          exact ⟨by first | rfl | (simp [errW_none, errW_some] <;> rfl) | (simp [*, errW_none, errW_some] <;> rfl), blw_⟩
         ·rw [if_neg c27] at H
          have c27b0 : decide ((rd t284 x6_2) < 0) = false := decide_eq_false c27
          clear c27
          by_cases c29 : (rd t284 x6_2) ≥ 10007
          ·rw [if_pos c29] at H
           have c29b0 : decide (10007 ≤ (rd t284 x6_2)) = true := decide_eq_true c29
           clear c29
           obtain rfl := Option.some.inj H
           obtain ⟨Ao30, co30, eo30⟩ := Kd.R_slice HO_5.out
           subst eo30
           have p295 : 0 ≤ (x6_2 : Int) := of_decide_eq_true (by first | (with_reducible assumption) | assumption)
           have q295 : x6_2 < (t284.length : Int) := of_decide_eq_true (by first | (with_reducible assumption) | assumption)
           obtain ⟨ad295, e295, hx295_0⟩ := Kd.at_int (Kd.R_reads' HO_5.out).2.2 x6_2 p295 q295
           cases e295
           replace p295 := eq_true p295
           replace q295 := eq_true q295
           have p296 : 0 ≤ (x6_2 : Int) := of_decide_eq_true (by first | (with_reducible assumption) | assumption)
           have q296 : x6_2 < (t284.length : Int) := of_decide_eq_true (by first | (with_reducible assumption) | assumption)
           obtain ⟨ad296, e296, hx296_0⟩ := Kd.at_int (Kd.R_reads' HO_5.out).2.2 x6_2 p296 q296
           obtain rfl : ad295 = ad296 := (by injection e296)
           replace p296 := eq_true p296
           replace q296 := eq_true q296
           go_wp2
           go_ret
           exact ⟨by first | rfl | (simp [errW_none, errW_some] <;> rfl) | (simp [*, errW_none, errW_some] <;> rfl), blw_⟩
          ·rw [if_neg c29] at H
           have c29b0 : decide (10007 ≤ (rd t284 x6_2)) = false := decide_eq_false c29
           clear c29
           have H' := Aside0.mk H
           clear H
           obtain ⟨Ao31, co31, eo31⟩ := Kd.R_slice HO_5.out
           subst eo31
           have p295 : 0 ≤ (x6_2 : Int) := of_decide_eq_true (by first | (with_reducible assumption) | assumption)
           have q295 : x6_2 < (t284.length : Int) := of_decide_eq_true (by first | (with_reducible assumption) | assumption)
           obtain ⟨ad295, e295, hx295_0⟩ := Kd.at_int (Kd.R_reads' HO_5.out).2.2 x6_2 p295 q295
           cases e295
           replace p295 := eq_true p295
           replace q295 := eq_true q295
           have p296 : 0 ≤ (x6_2 : Int) := of_decide_eq_true (by first | (with_reducible assumption) | assumption)
           have q296 : x6_2 < (t284.length : Int) := of_decide_eq_true (by first | (with_reducible assumption) | assumption)
           obtain ⟨ad296, e296, hx296_0⟩ := Kd.at_int (Kd.R_reads' HO_5.out).2.2 x6_2 p296 q296
           obtain rfl : ad295 = ad296 := (by injection e296)
           replace p296 := eq_true p296
           replace q296 := eq_true q296
           go_wp2
           go_roundg k2
           case measure => have := HJ4.out; have := HK2.out; omega
           case rel => exact ⟨(wrap64 (x6_2 + 1)), (by first | rfl | (simp; done) | (simp [*]; done)), H', ⟨by have := HJ4.out; have := HK2.out; omega⟩, ⟨by (with_reducible repeat (first | apply Kd.V_alloc | apply Kd.V_drewN | apply Kd.V_drew)); exact HO_3.out⟩, ⟨rw_ HO_5.out⟩, ⟨blw_⟩⟩
        ·rw [if_neg c26] at H
         exact absurd H (by simp)
       ·rw [if_neg c25] at H
        have c25b0 : decide (x6_2 < (t284.length : Int)) = false := decide_eq_false c25
        clear c25
        obtain rfl := Option.some.inj H
        obtain ⟨Ao32, co32, eo32⟩ := Kd.R_slice HO_5.out
        subst eo32
        go_wp2
        go_ret
        exact ⟨by first | rfl | (simp [errW_none, errW_some] <;> rfl) | (simp [*, errW_none, errW_some] <;> rfl), blw_⟩

/-- THE ONE PURE STATEMENT of laws_FnTaskKeys: yours. -/
def laws_FnTaskKeys.Pure : Prop := ∀ (l0 : List Int), l0.length ≤ maxLen → l0.length * 1 ≤ 140737488351232 → (∀ x ∈ l0, (Lit.int .u8 x).wf = true) → ∃ k, laws_FnTaskKeys.f k l0 = some true
theorem laws_FnTaskKeys.walk (P : laws_FnTaskKeys.Pure) (a0 : Option Addr) (len0 cap0 : Nat) (z0 : List Int) (w : World) (w0 : (a0 = none ∧ len0 = 0 ∧ cap0 = 0 ∧ z0 = []) ∨ ∃ x, a0 = some x ∧ len0 ≤ cap0 ∧ cap0 ≤ maxLen ∧ z0.length = cap0 ∧ (∀ i, i < z0.length → w.cell? (x.add i) = some (.int .u8 (z0.getD i 0))) ∧ ∀ n ∈ z0, (Lit.int .u8 n).wf = true) (y0 : len0 * 1 ≤ 140737488351232) (hT_ : Tab w) :
  Calls Tryd.prog 3 #[.slice a0 len0 cap0] w fun e w' => e = .returned (.bool true) ∧ Below w.heap.size w w' := by
 obtain ⟨l0, rfl, hr0, hm0, hw0, hc0⟩ := ReadsInt.ofRowC w0
 obtain ⟨k, h⟩ := P l0 hm0 y0 hw0
 refine (laws_FnTaskKeys.calls k _ _ l0 true w (Kd.C_of_reads (d := (0 : Int)) (h1 := fun _ => rfl) hr0) hc0 h hT_).mono ?_
 rintro e w' ⟨rfl, hd⟩
 exact ⟨rfl, hd⟩

end Go.Proofs.YtdihblbfafhhnaaDoor.G
