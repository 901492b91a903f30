-- SLIM
-- Written by hyb.py, a driver of this session round the print.py of the kit. Lean checks it.
import Derived.Test.YtgdoajmgheokbaaDoorWRepsOne
import Derived.Test.YtgdoajmgheokbaaDoorWGuard
import Derived.Test.YtgdoajmgheokbaaDoorG0
import Derived.Test.YtgdoajmgheokbaaDoorG2
import Derived.Test.YtgdoajmgheokbaaDoorG12
import Derived.Test.YtgdoajmgheokbaaDoorHDone
import Derived.Test.YtgdoajmgheokbaaDoorHStale
namespace Go.Proofs.YtgdoajmgheokbaaDoor.G
open Go.RowKit Go.Proofs.YtgdoajmgheokbaaDoorW.PrintWords Go.Proofs.YtgdoajmgheokbaaDoorW.PrintLast Go.Proofs.YtgdoajmgheokbaaDoorW.PrintMore
attribute [local go_sem] max2_int min2_int max_two min_two max_three min_three max_four min_four   -- for this text's walks alone
set_option linter.unusedVariables false
set_option linter.unusedSimpArgs false

/-! ### laws_FnStaleTasksDone: function 3 -/
mutual
def laws_FnStaleTasksDone.j0 : Nat → List (S74) → List Int → List Int → Bool → Option (Bool)
 | 0, _, _, _, _ => none
 | k + 1, x3, x4, x5, x29 => if x29 = true then ((spec_StaleTasks.f k x3 x4).bind fun t328 => ((laws_equalInts.f k x5 t328).bind fun t331 => (some t331))) else (laws_FnStaleTasksDone.l0 k x3 x5 (([] : List Int)) 0)
def laws_FnStaleTasksDone.l0 : Nat → List (S74) → List Int → List Int → Int → Option (Bool)
 | 0, _, _, _, _ => none
 | k + 1, x3, x5, x6, x7 => if x7 < (x3.length : Int) then ((laws_isIn.f k x5 x7).bind fun t335 => (if t335 = true then (laws_FnStaleTasksDone.l0 k x3 x5 x6 (wrap64 (x7 + 1))) else (if x6.length < 17592186044416 then (laws_FnStaleTasksDone.l0 k x3 x5 (x6 ++ [x7]) (wrap64 (x7 + 1))) else (none)))) else ((impl_ValidDone.f x3 x6).bind fun t339 => (some t339))
end
def laws_FnStaleTasksDone.f (k : Nat) (l0 : List Int) : Option (Bool) := if (l0.length : Int) > 1048576 then (some true) else ((spec_DrawStaleTasks.f l0).bind fun bt315 => ((impl_StaleTasks.f bt315.1 bt315.2).bind fun t321 => ((spec_StaleTasks.f k bt315.1 bt315.2).bind fun t324 => ((laws_equalInts.f k t321 t324).bind fun t327 => (if t327 = true then (laws_FnStaleTasksDone.j0 k bt315.1 bt315.2 t321 ((t321.length : Int) == 0)) else (laws_FnStaleTasksDone.j0 k bt315.1 bt315.2 t321 true))))))
set_option maxHeartbeats 8000000 in
set_option maxRecDepth 100000 in
theorem laws_FnStaleTasksDone.calls (k : Nat) (A0 : Option Addr) (c0 : Nat) (l0 : List Int) (r : Bool) (w : World) (hr0 : Kd.C (Kd.int .u8) w A0 l0.length l0) (hc0 : l0.length ≤ c0) (h : laws_FnStaleTasksDone.f k l0 = some r) (hT_ : Tab w) :
  Calls Tryd.prog 3 #[.slice A0 l0.length c0] w fun e w' => e = .returned (.bool r) ∧ Below w.heap.size w w' := by
 have HT_ := Aside0.mk hT_
 clear hT_
 have HR0 := Aside0.mk hr0
 have HC0 := Aside0.mk hc0
 clear hr0 hc0
 have HB := Aside0.mk (Below.refl w.heap.size w)
 have H : (if (l0.length : Int) > 1048576 then (some true) else ((spec_DrawStaleTasks.f l0).bind fun bt315 => ((impl_StaleTasks.f bt315.1 bt315.2).bind fun t321 => ((spec_StaleTasks.f k bt315.1 bt315.2).bind fun t324 => ((laws_equalInts.f k t321 t324).bind fun t327 => (if t327 = true then (laws_FnStaleTasksDone.j0 k bt315.1 bt315.2 t321 ((t321.length : Int) == 0)) else (laws_FnStaleTasksDone.j0 k bt315.1 bt315.2 t321 true))))))) = some r := h
 clear h
 by_cases c2 : (l0.length : Int) > 1048576
 ·rw [if_pos c2] at H
  have c2b0 : decide (1048576 < (l0.length : Int)) = true := decide_eq_true c2
  have c2b1 : decide (1048576 < l0.length) = true := decide_eq_true (by omega)
  clear c2
  obtain rfl := Option.some.inj H
  go_enter Tryd.func3, Tryd.ntmps3
  go_wp2
  go_ret
  exact ⟨by first | rfl | (simp [errW_none, errW_some] <;> rfl) | (simp [*, errW_none, errW_some] <;> rfl), blw_⟩
 ·rw [if_neg c2] at H
  have c2b0 : decide (1048576 < (l0.length : Int)) = false := decide_eq_false c2
  have c2b1 : decide (1048576 < l0.length) = false := decide_eq_false (by omega)
  clear c2
  replace H := Option.bind_eq_some_iff.mp H
  obtain ⟨⟨t315, t318⟩, A30, H⟩ := H
  replace H : ((impl_StaleTasks.f t315 t318).bind fun t321 => ((spec_StaleTasks.f k t315 t318).bind fun t324 => ((laws_equalInts.f k t321 t324).bind fun t327 => (if t327 = true then (laws_FnStaleTasksDone.j0 k t315 t318 t321 ((t321.length : Int) == 0)) else (laws_FnStaleTasksDone.j0 k t315 t318 t321 true))))) = some r := H
  have A3 := Aside0.mk A30
  clear A30
  replace H := Option.bind_eq_some_iff.mp H
  obtain ⟨t321, A40, H⟩ := H
  replace H : ((spec_StaleTasks.f k t315 t318).bind fun t324 => ((laws_equalInts.f k t321 t324).bind fun t327 => (if t327 = true then (laws_FnStaleTasksDone.j0 k t315 t318 t321 ((t321.length : Int) == 0)) else (laws_FnStaleTasksDone.j0 k t315 t318 t321 true)))) = some r := H
  have A4 := Aside0.mk A40
  clear A40
  have HC5 := Aside0.mk H
  clear H
  go_enter Tryd.func3, Tryd.ntmps3
  go_upto_region 5 with (first | ((with_reducible refine gate_callee (f := 9) rfl ?_); refine goesC_ (some 13) Tryd.func9 #[.slice A0 l0.length c0] ?_; (with_reducible refine (spec_DrawStaleTasks.calls _ _ l0 t315 t318 _ ?side1 ?side2 A3.out).mono ?_); (case side1 => exact cw_ HR0.out); (case side2 => exact HC0.out); rintro e w6 ⟨v316, v319, rfl, ho0, ho1, hb⟩; refine ⟨_, rfl, ?_⟩; have n0_ := Aside0.mk (Kd.V_lower (Kd.V_mono (ok' := fun k_ => True) ho0 (fun k_ hk_ => trivial)) (below_size blw_)); have n1_ := Aside0.mk (Kd.V_lower (Kd.V_mono (ok' := fun k_ => True) ho1 (fun k_ hk_ => trivial)) (below_size blw_)); have n2_ := Aside0.mk (below_step blw_ hb); clear HB; have HO317 := n0_; have HO320 := n1_; have HB := n2_; clear n0_ n1_ n2_; (try clear hb); (try clear hb2); (try clear hk); (try clear hi); (try clear ho0); (try clear ho1); obtain ⟨Ao7, co7, eo7⟩ := Kd.V_slice HO317.out; subst eo7; obtain ⟨Ao8, co8, eo8⟩ := Kd.V_slice HO320.out; subst eo8) | ((with_reducible refine gate_callee (f := 10) rfl ?_); refine goesC_ (some 18) Tryd.func10 #[.slice Ao7 t315.length co7, .slice Ao8 t318.length co8] ?_; (with_reducible refine (impl_StaleTasks.calls _ _ t315 _ _ t318 t321 _ ?side1 ?side2 ?side3 ?side4 A4.out ?sideT).mono ?_); (case sideT => first | exact HT_.out.below blw_ HT_.out.pos | exact HT_.out); (case side1 => exact cw_ (Kd.V_reads' HO317.out).2.2); (case side2 => exact (Kd.V_reads' HO317.out).2.1); (case side3 => exact cw_ (Kd.V_reads' HO320.out).2.2); (case side4 => exact (Kd.V_reads' HO320.out).2.1); rintro e w9 ⟨v322, rfl, ho0, hb⟩; refine ⟨_, rfl, ?_⟩; have n0_ := Aside0.mk (Kd.V_elder' (by (with_reducible repeat (first | apply Kd.V_alloc | apply Kd.V_drewN | apply Kd.V_drew)); exact HO317.out) (Kd.R_base ho0) hb); have n1_ := Aside0.mk (Kd.V_elder' (by (with_reducible repeat (first | apply Kd.V_alloc | apply Kd.V_drewN | apply Kd.V_drew)); exact HO320.out) (Kd.R_base ho0) hb); have n2_ := Aside0.mk (Kd.R_lower ho0 (below_size blw_)); have n3_ := Aside0.mk (below_step blw_ hb); clear HO317; clear HO320; clear HB; have HO317 := n0_; have HO320 := n1_; have HO323 := n2_; have HB := n3_; clear n0_ n1_ n2_ n3_; (try clear hb); (try clear hb2); (try clear hk); (try clear hi); (try clear ho0)))
  (try simp only [Act.put, List.setIfInBounds_toArray, List.set_cons_zero, List.set_cons_succ])
  go_cut [29] (fun v29 wc => ∃ (kq : Nat) (x29_4 : Bool), v29 = .bool x29_4 ∧ Aside0 (laws_FnStaleTasksDone.j0 kq t315 t318 t321 x29_4 = some r) ∧ Aside0 (kq ≤ k) ∧ Aside0 (Kd.V k74 74 wc w.heap.size (fun k_ => some k_ ≠ (v322 : Value).ownBlock) (.slice Ao7 t315.length co7) t315) ∧ Aside0 (Kd.V (Kd.int .i64) 3 wc w.heap.size (fun k_ => some k_ ≠ (v322 : Value).ownBlock) (.slice Ao8 t318.length co8) t318) ∧ Aside0 (Kd.R (Kd.int .i64) 3 wc w.heap.size (fun _ => True) v322 t321) ∧ Aside0 (Below w.heap.size w wc))
  case first =>
   have H := HC5.out
   clear HC5
   replace H := Option.bind_eq_some_iff.mp H
   obtain ⟨t324, A100, H⟩ := H
   replace H : ((laws_equalInts.f k t321 t324).bind fun t327 => (if t327 = true then (laws_FnStaleTasksDone.j0 k t315 t318 t321 ((t321.length : Int) == 0)) else (laws_FnStaleTasksDone.j0 k t315 t318 t321 true))) = some r := H
   have A10 := Aside0.mk A100
   clear A100
   replace H := Option.bind_eq_some_iff.mp H
   obtain ⟨t327, A110, H⟩ := H
   replace H : (if t327 = true then (laws_FnStaleTasksDone.j0 k t315 t318 t321 ((t321.length : Int) == 0)) else (laws_FnStaleTasksDone.j0 k t315 t318 t321 true)) = some r := H
   have A11 := Aside0.mk A110
   clear A110
   by_cases c12 : t327 = true
   ·subst c12
    have H1 : (laws_FnStaleTasksDone.j0 k t315 t318 t321 ((t321.length : Int) == 0)) = some r := by rw [if_pos rfl] at H; exact H
    clear H
    have H := H1
    clear H1
    have H' := Aside0.mk H
    clear H
    go_wp2_with (first | ((with_reducible refine gate_callee (f := 12) rfl ?_); refine goesC_ (some 22) Tryd.func12 #[.slice Ao7 t315.length co7, .slice Ao8 t318.length co8] ?_; (with_reducible refine (spec_StaleTasks.calls k _ _ t315 _ _ t318 t324 _ ?side1 ?side2 ?side3 ?side4 A10.out).mono ?_); (case side1 => exact cw_ (Kd.V_reads' HO317.out).2.2); (case side2 => exact (Kd.V_reads' HO317.out).2.1); (case side3 => exact cw_ (Kd.V_reads' HO320.out).2.2); (case side4 => exact (Kd.V_reads' HO320.out).2.1); rintro e w13 ⟨v325, rfl, ho0, hb⟩; refine ⟨_, rfl, ?_⟩; have n0_ := Aside0.mk (Kd.V_elder' (by (with_reducible repeat (first | apply Kd.V_alloc | apply Kd.V_drewN | apply Kd.V_drew)); exact HO317.out) (Kd.R_base ho0) hb); have n1_ := Aside0.mk (Kd.V_elder' (by (with_reducible repeat (first | apply Kd.V_alloc | apply Kd.V_drewN | apply Kd.V_drew)); exact HO320.out) (Kd.R_base ho0) hb); have n2_ := Aside0.mk (Kd.R_elder' (by (with_reducible repeat (first | apply Kd.R_alloc | apply Kd.R_drewN | apply Kd.R_drew)); exact HO323.out) (Kd.R_base ho0) hb); have n3_ := Aside0.mk (Kd.R_lower (Kd.R_new' ho0 (Kd.R_lt (by (with_reducible repeat (first | apply Kd.R_alloc | apply Kd.R_drewN | apply Kd.R_drew)); exact HO323.out))) (below_size blw_)); have n4_ := Aside0.mk (below_step blw_ hb); clear HO317; clear HO320; clear HO323; clear HB; have HO317 := n0_; have HO320 := n1_; have HO323 := n2_; have HO326 := n3_; have HB := n4_; clear n0_ n1_ n2_ n3_ n4_; (try clear hb); (try clear hb2); (try clear hk); (try clear hi); (try clear ho0); obtain ⟨Ao14, co14, eo14⟩ := Kd.R_slice HO323.out; subst eo14; obtain ⟨Ao15, co15, eo15⟩ := Kd.R_slice HO326.out; subst eo15) | ((with_reducible refine gate_callee (f := 11) rfl ?_); refine goesC_ (some 23) Tryd.func11 #[.slice Ao14 t321.length co14, .slice Ao15 t324.length co15] ?_; (with_reducible refine (laws_equalInts.calls k _ _ t321 _ _ t324 true _ ?side1 ?side2 ?side3 ?side4 A11.out).mono ?_); (case side1 => exact cw_ (Kd.R_reads' HO323.out).2.2); (case side2 => exact (Kd.R_reads' HO323.out).2.1); (case side3 => exact cw_ (Kd.R_reads' HO326.out).2.2); (case side4 => exact (Kd.R_reads' HO326.out).2.1); rintro e w' ⟨rfl, ⟨nd, rfl⟩⟩; refine ⟨_, rfl, ?_⟩))
    go_meet
    case rel => exact ⟨_, (((t321.length : Int) == 0)), (by first | rfl | (simp; done) | (simp [*]; done)), H', ⟨by first | omega | exact Nat.le_refl _⟩, ⟨by (with_reducible repeat (first | apply Kd.V_alloc | apply Kd.V_drewN | apply Kd.V_drew)); exact Kd.V_mono HO317.out (fun _ hk => hk.1.2)⟩, ⟨by (with_reducible repeat (first | apply Kd.V_alloc | apply Kd.V_drewN | apply Kd.V_drew)); exact Kd.V_mono HO320.out (fun _ hk => hk.1.2)⟩, ⟨by (with_reducible repeat (first | apply Kd.R_alloc | apply Kd.R_drewN | apply Kd.R_drew)); exact Kd.R_mono HO323.out (fun _ hk => trivial)⟩, ⟨blw_⟩⟩
   ·replace c12 := Bool.eq_false_iff.mpr c12
    subst c12
    have H1 : (laws_FnStaleTasksDone.j0 k t315 t318 t321 true) = some r := by rw [if_neg (show ¬ (false = true) by decide)] at H; exact H
    clear H
    have H := H1
    clear H1
    have H' := Aside0.mk H
    clear H
    go_wp2_with (first | ((with_reducible refine gate_callee (f := 12) rfl ?_); refine goesC_ (some 22) Tryd.func12 #[.slice Ao7 t315.length co7, .slice Ao8 t318.length co8] ?_; (with_reducible refine (spec_StaleTasks.calls k _ _ t315 _ _ t318 t324 _ ?side1 ?side2 ?side3 ?side4 A10.out).mono ?_); (case side1 => exact cw_ (Kd.V_reads' HO317.out).2.2); (case side2 => exact (Kd.V_reads' HO317.out).2.1); (case side3 => exact cw_ (Kd.V_reads' HO320.out).2.2); (case side4 => exact (Kd.V_reads' HO320.out).2.1); rintro e w16 ⟨v325, rfl, ho0, hb⟩; refine ⟨_, rfl, ?_⟩; have n0_ := Aside0.mk (Kd.V_elder' (by (with_reducible repeat (first | apply Kd.V_alloc | apply Kd.V_drewN | apply Kd.V_drew)); exact HO317.out) (Kd.R_base ho0) hb); have n1_ := Aside0.mk (Kd.V_elder' (by (with_reducible repeat (first | apply Kd.V_alloc | apply Kd.V_drewN | apply Kd.V_drew)); exact HO320.out) (Kd.R_base ho0) hb); have n2_ := Aside0.mk (Kd.R_elder' (by (with_reducible repeat (first | apply Kd.R_alloc | apply Kd.R_drewN | apply Kd.R_drew)); exact HO323.out) (Kd.R_base ho0) hb); have n3_ := Aside0.mk (Kd.R_lower (Kd.R_new' ho0 (Kd.R_lt (by (with_reducible repeat (first | apply Kd.R_alloc | apply Kd.R_drewN | apply Kd.R_drew)); exact HO323.out))) (below_size blw_)); have n4_ := Aside0.mk (below_step blw_ hb); clear HO317; clear HO320; clear HO323; clear HB; have HO317 := n0_; have HO320 := n1_; have HO323 := n2_; have HO326 := n3_; have HB := n4_; clear n0_ n1_ n2_ n3_ n4_; (try clear hb); (try clear hb2); (try clear hk); (try clear hi); (try clear ho0); obtain ⟨Ao17, co17, eo17⟩ := Kd.R_slice HO323.out; subst eo17; obtain ⟨Ao18, co18, eo18⟩ := Kd.R_slice HO326.out; subst eo18) | ((with_reducible refine gate_callee (f := 11) rfl ?_); refine goesC_ (some 23) Tryd.func11 #[.slice Ao17 t321.length co17, .slice Ao18 t324.length co18] ?_; (with_reducible refine (laws_equalInts.calls k _ _ t321 _ _ t324 false _ ?side1 ?side2 ?side3 ?side4 A11.out).mono ?_); (case side1 => exact cw_ (Kd.R_reads' HO323.out).2.2); (case side2 => exact (Kd.R_reads' HO323.out).2.1); (case side3 => exact cw_ (Kd.R_reads' HO326.out).2.2); (case side4 => exact (Kd.R_reads' HO326.out).2.1); rintro e w' ⟨rfl, ⟨nd, rfl⟩⟩; refine ⟨_, rfl, ?_⟩))
    go_meet
    case rel => exact ⟨_, (true), (by first | rfl | (simp; done) | (simp [*]; done)), H', ⟨by first | omega | exact Nat.le_refl _⟩, ⟨by (with_reducible repeat (first | apply Kd.V_alloc | apply Kd.V_drewN | apply Kd.V_drew)); exact Kd.V_mono HO317.out (fun _ hk => hk.1.2)⟩, ⟨by (with_reducible repeat (first | apply Kd.V_alloc | apply Kd.V_drewN | apply Kd.V_drew)); exact Kd.V_mono HO320.out (fun _ hk => hk.1.2)⟩, ⟨by (with_reducible repeat (first | apply Kd.R_alloc | apply Kd.R_drewN | apply Kd.R_drew)); exact Kd.R_mono HO323.out (fun _ hk => trivial)⟩, ⟨blw_⟩⟩
  case rest =>
   clear HC5
   try clear c1
   try clear c2
   try clear c2b0
   try clear c2b1
   try clear p2
   try clear c3
   try clear c9
   try clear c10
   try clear c11
   try clear c12
   obtain ⟨kq, x29_4, rfl, HA, HJ4, HO_3, HO_4, HO_5, HB⟩ := hcut
   cases kq with
   | zero => exact absurd HA.out (by simp [laws_FnStaleTasksDone.j0])
   | succ kj4 =>
    have H := HA.out
    clear HA
    simp only [laws_FnStaleTasksDone.j0] at H
    by_cases c19 : x29_4 = true
    ·subst c19
     have H1 : ((spec_StaleTasks.f kj4 t315 t318).bind fun t328 => ((laws_equalInts.f kj4 t321 t328).bind fun t331 => (some t331))) = some r := by rw [if_pos rfl] at H; exact H
     clear H
     have H := H1
     clear H1
     replace H := Option.bind_eq_some_iff.mp H
     obtain ⟨t328, A200, H⟩ := H
     replace H : ((laws_equalInts.f kj4 t321 t328).bind fun t331 => (some t331)) = some r := H
     have A20 := Aside0.mk A200
     clear A200
     replace H := Option.bind_eq_some_iff.mp H
     obtain ⟨t331, A210, H⟩ := H
     replace H : (some t331) = some r := H
     have A21 := Aside0.mk A210
     clear A210
     obtain rfl := Option.some.inj H
     go_wp2_with (first | ((with_reducible refine gate_callee (f := 12) rfl ?_); refine goesC_ (some 33) Tryd.func12 #[.slice Ao7 t315.length co7, .slice Ao8 t318.length co8] ?_; (with_reducible refine (spec_StaleTasks.calls kj4 _ _ t315 _ _ t318 t328 _ ?side1 ?side2 ?side3 ?side4 A20.out).mono ?_); (case side1 => exact cw_ (Kd.V_reads' HO_3.out).2.2); (case side2 => exact (Kd.V_reads' HO_3.out).2.1); (case side3 => exact cw_ (Kd.V_reads' HO_4.out).2.2); (case side4 => exact (Kd.V_reads' HO_4.out).2.1); rintro e w22 ⟨v329, rfl, ho0, hb⟩; refine ⟨_, rfl, ?_⟩; have n0_ := Aside0.mk (Kd.V_elder' (by (with_reducible repeat (first | apply Kd.V_alloc | apply Kd.V_drewN | apply Kd.V_drew)); exact HO_3.out) (Kd.R_base ho0) hb); have n1_ := Aside0.mk (Kd.V_elder' (by (with_reducible repeat (first | apply Kd.V_alloc | apply Kd.V_drewN | apply Kd.V_drew)); exact HO_4.out) (Kd.R_base ho0) hb); have n2_ := Aside0.mk (Kd.R_elder' (by (with_reducible repeat (first | apply Kd.R_alloc | apply Kd.R_drewN | apply Kd.R_drew)); exact HO_5.out) (Kd.R_base ho0) hb); have n3_ := Aside0.mk (Kd.R_lower (Kd.R_new' ho0 (Kd.R_lt (by (with_reducible repeat (first | apply Kd.R_alloc | apply Kd.R_drewN | apply Kd.R_drew)); exact HO_5.out))) (below_size blw_)); have n4_ := Aside0.mk (below_step blw_ hb); clear HO_3; clear HO_4; clear HO_5; clear HB; have HO_3 := n0_; have HO_4 := n1_; have HO_5 := n2_; have HO330 := n3_; have HB := n4_; clear n0_ n1_ n2_ n3_ n4_; (try clear hb); (try clear hb2); (try clear hk); (try clear hi); (try clear ho0); obtain ⟨Ao23, co23, eo23⟩ := Kd.R_slice HO_5.out; subst eo23; obtain ⟨Ao24, co24, eo24⟩ := Kd.R_slice HO330.out; subst eo24) | ((with_reducible refine gate_callee (f := 11) rfl ?_); refine goesC_ (some 34) Tryd.func11 #[.slice Ao23 t321.length co23, .slice Ao24 t328.length co24] ?_; (with_reducible refine (laws_equalInts.calls kj4 _ _ t321 _ _ t328 t331 _ ?side1 ?side2 ?side3 ?side4 A21.out).mono ?_); (case side1 => exact cw_ (Kd.R_reads' HO_5.out).2.2); (case side2 => exact (Kd.R_reads' HO_5.out).2.1); (case side3 => exact cw_ (Kd.R_reads' HO330.out).2.2); (case side4 => exact (Kd.R_reads' HO330.out).2.1); rintro e w' ⟨rfl, ⟨nd, rfl⟩⟩; refine ⟨_, rfl, ?_⟩))
     go_ret
     exact ⟨by first | rfl | (simp [errW_none, errW_some] <;> rfl) | (simp [*, errW_none, errW_some] <;> rfl), blw_⟩
    ·replace c19 := Bool.eq_false_iff.mpr c19
     subst c19
     have H1 : (laws_FnStaleTasksDone.l0 kj4 t315 t321 (([] : List Int)) 0) = some r := by rw [if_neg (show ¬ (false = true) by decide)] at H; exact H
     clear H
     have H := H1
     clear H1
     obtain ⟨y332, hy332⟩ : ∃ y_ : List Int, y_ = (([] : List Int)) := ⟨_, rfl⟩
     replace H : (laws_FnStaleTasksDone.l0 kj4 t315 t321 y332 0) = some r := by first | (rw [hy332]; with_reducible exact H) | (have H2_ := (Option.bind_some _ _).symm.trans H; rw [hy332]; with_reducible exact H2_) | (have H2_ := (Option.bind_some _ _).symm.trans H; with_reducible exact H2_) | with_reducible exact H | (rw [hy332]; exact H) | exact H
     have Ny332 := Aside0.mk hy332
     clear hy332
     have H' := Aside0.mk H
     clear H
     go_wp2_with (first | ((with_reducible refine gate_dst (N := 35) rfl ?_); (try (refine gate_guard (by rfl) ?_; dsimp only)); refine Kd.R_lit (Kd.int .i64) _ 3 ?hg (N := 35) ?hd (xs := ([] : List Int)) (inner := []) (ok := fun _ => True) (okp := fun _ => True) ?hr ?hp (fun _ hk => hk) trivial (Below.refl _ _) (Nat.le_refl _) (by simp) ?_; (case hd => rfl); (case hg => rfl); (case hr => first | (go_simp; done) | (go_simp; rfl)); (case hp => exact (Reps.none _ _)); intro v333 w25 ho26 hb hg_ hnew_; clear hg_ hnew_; (first | rw [← Ny332.out] at ho26 | (simp only [Int.reduceToNat] at ho26; rw [← Ny332.out] at ho26)); have n0_ := Aside0.mk (Kd.V_elder' (by (with_reducible repeat (first | apply Kd.V_alloc | apply Kd.V_drewN | apply Kd.V_drew)); exact HO_3.out) (Kd.R_base ho26) hb); have n1_ := Aside0.mk (Kd.V_elder' (by (with_reducible repeat (first | apply Kd.V_alloc | apply Kd.V_drewN | apply Kd.V_drew)); exact HO_4.out) (Kd.R_base ho26) hb); have n2_ := Aside0.mk (Kd.R_elder' (by (with_reducible repeat (first | apply Kd.R_alloc | apply Kd.R_drewN | apply Kd.R_drew)); exact HO_5.out) (Kd.R_base ho26) hb); have n3_ := Aside0.mk (Kd.R_lower (Kd.R_new' ho26 (Kd.R_lt (by (with_reducible repeat (first | apply Kd.R_alloc | apply Kd.R_drewN | apply Kd.R_drew)); exact HO_5.out))) (below_size blw_)); have n4_ := Aside0.mk (below_step blw_ hb); clear HO_3; clear HO_4; clear HO_5; clear HB; have HO_3 := n0_; have HO_4 := n1_; have HO_5 := n2_; have HO334 := n3_; have HB := n4_; clear n0_ n1_ n2_ n3_ n4_; clear hb ho26))
     go_loopg [6, 7] kj4 (fun kq v6 v7 w' => ∃ (x6_2 : List Int) (x7_2 : Int), v7 = .int .i64 x7_2 ∧ Aside0 (laws_FnStaleTasksDone.l0 kq t315 t321 x6_2 x7_2 = some r) ∧ Aside0 (kq ≤ kj4) ∧ Aside0 (Kd.V k74 74 w' w.heap.size (fun k_ => some k_ ≠ (v322 : Value).ownBlock ∧ some k_ ≠ (v6 : Value).ownBlock) (.slice Ao7 t315.length co7) t315) ∧ Aside0 (Kd.R (Kd.int .i64) 3 w' w.heap.size (fun k_ => some k_ ≠ (v6 : Value).ownBlock) v322 t321) ∧ Aside0 (Kd.R (Kd.int .i64) 3 w' w.heap.size (fun k_ => some k_ ≠ (v322 : Value).ownBlock) v6 x6_2) ∧ Aside0 (Below w.heap.size w w'))
     case atStart => exact ⟨(y332), (0), (by first | rfl | (simp; done) | (simp [*]; done)), H', ⟨Nat.le_refl _⟩, ⟨by (with_reducible repeat (first | apply Kd.V_alloc | apply Kd.V_drewN | apply Kd.V_drew)); exact HO_3.out⟩, ⟨by (with_reducible repeat (first | apply Kd.R_alloc | apply Kd.R_drewN | apply Kd.R_drew)); exact Kd.R_mono HO_5.out (fun _ hk => hk.2)⟩, ⟨by (with_reducible repeat (first | apply Kd.R_alloc | apply Kd.R_drewN | apply Kd.R_drew)); exact Kd.R_mono HO334.out (fun _ hk => hk.2)⟩, ⟨blw_⟩⟩
     case round =>
      clear H'
      try clear c1
      try clear c2
      try clear c2b0
      try clear c2b1
      try clear p2
      try clear c3
      try clear c9
      try clear c10
      try clear c11
      try clear c12
      try clear c19
      try clear p2
      obtain ⟨x6_2, x7_2, rfl, HA, HK2, HO_3, HO_5, HO_6, HB⟩ := hrel
      cases gk with
      | zero => exact absurd HA.out (by simp [laws_FnStaleTasksDone.l0])
      | succ k2 =>
       have H := HA.out
       clear HA
       simp only [laws_FnStaleTasksDone.l0] at H
       by_cases c27 : x7_2 < (t315.length : Int)
       ·rw [if_pos c27] at H
        have c27b0 : decide (x7_2 < (t315.length : Int)) = true := decide_eq_true c27
        clear c27
        replace H := Option.bind_eq_some_iff.mp H
        obtain ⟨t335, A280, H⟩ := H
        replace H : (if t335 = true then (laws_FnStaleTasksDone.l0 k2 t315 t321 x6_2 (wrap64 (x7_2 + 1))) else (if x6_2.length < 17592186044416 then (laws_FnStaleTasksDone.l0 k2 t315 t321 (x6_2 ++ [x7_2]) (wrap64 (x7_2 + 1))) else (none))) = some r := H
        have A28 := Aside0.mk A280
        clear A280
        by_cases c29 : t335 = true
        ·subst c29
         have H1 : (laws_FnStaleTasksDone.l0 k2 t315 t321 x6_2 (wrap64 (x7_2 + 1))) = some r := by rw [if_pos rfl] at H; exact H
         clear H
         have H := H1
         clear H1
         have H' := Aside0.mk H
         clear H
         obtain ⟨Ao30, co30, eo30⟩ := Kd.R_slice HO_5.out
         subst eo30
         go_wp2_with (first | ((with_reducible refine gate_callee (f := 13) rfl ?_); refine goesC_ (some 44) Tryd.func13 #[.slice Ao30 t321.length co30, .int .i64 x7_2] ?_; (with_reducible refine (laws_isIn.calls k2 _ _ t321 x7_2 true _ ?side1 ?side2 A28.out).mono ?_); (case side1 => exact cw_ (Kd.R_reads' HO_5.out).2.2); (case side2 => exact (Kd.R_reads' HO_5.out).2.1); rintro e w' ⟨rfl, ⟨nd, rfl⟩⟩; refine ⟨_, rfl, ?_⟩))
         go_roundg k2
         case measure => have := HJ4.out; have := HK2.out; omega
         case rel => exact ⟨(x6_2), (wrap64 (x7_2 + 1)), (by first | rfl | (simp; done) | (simp [*]; done)), H', ⟨by have := HJ4.out; have := HK2.out; omega⟩, ⟨by (with_reducible repeat (first | apply Kd.V_alloc | apply Kd.V_drewN | apply Kd.V_drew)); exact HO_3.out⟩, ⟨rw_ HO_5.out⟩, ⟨rw_ HO_6.out⟩, ⟨blw_⟩⟩
        ·replace c29 := Bool.eq_false_iff.mpr c29
         subst c29
         have H1 : (if x6_2.length < 17592186044416 then (laws_FnStaleTasksDone.l0 k2 t315 t321 (x6_2 ++ [x7_2]) (wrap64 (x7_2 + 1))) else (none)) = some r := by rw [if_neg (show ¬ (false = true) by decide)] at H; exact H
         clear H
         have H := H1
         clear H1
         by_cases c31 : x6_2.length < 17592186044416
         ·rw [if_pos c31] at H
          have LMc31 := Aside0.mk c31
          clear c31
          obtain ⟨y336, hy336⟩ : ∃ y_ : List Int, y_ = (x6_2 ++ [x7_2]) := ⟨_, rfl⟩
          replace H : (laws_FnStaleTasksDone.l0 k2 t315 t321 y336 (wrap64 (x7_2 + 1))) = some r := by first | (rw [hy336]; with_reducible exact H) | (have H2_ := (Option.bind_some _ _).symm.trans H; rw [hy336]; with_reducible exact H2_) | (have H2_ := (Option.bind_some _ _).symm.trans H; with_reducible exact H2_) | with_reducible exact H | (rw [hy336]; exact H) | exact H
          have Ny336 := Aside0.mk hy336
          clear hy336
          have H' := Aside0.mk H
          clear H
          obtain ⟨Ao32, co32, eo32⟩ := Kd.R_slice HO_5.out
          subst eo32
          go_wp2_with (first | ((with_reducible refine gate_callee (f := 13) rfl ?_); refine goesC_ (some 44) Tryd.func13 #[.slice Ao32 t321.length co32, .int .i64 x7_2] ?_; (with_reducible refine (laws_isIn.calls k2 _ _ t321 x7_2 false _ ?side1 ?side2 A28.out).mono ?_); (case side1 => exact cw_ (Kd.R_reads' HO_5.out).2.2); (case side2 => exact (Kd.R_reads' HO_5.out).2.1); rintro e w' ⟨rfl, ⟨nd, rfl⟩⟩; refine ⟨_, rfl, ?_⟩) | ((with_reducible refine gate_builtin (b := .append) (xs := #[.tmp 46, .tmp 48]) rfl ?_); (try (refine gate_guard (by rfl) ?_; dsimp only)); at_builtin; refine Kd.R_append (Kd.int .i64) (w0 := w) w.heap.size rfl (.tmp 46) (.tmp 48) 24 3 (.int .i64 0) 8 rfl Tryd.underlying24 info3 rfl (by decide) (by omega) u6 x6_2 x7_2 [.int .i64 x7_2] (fun k_ => some k_ ≠ (.slice Ao32 t321.length co32 : Value).ownBlock) (fun _ => False) rfl rfl ?aP (fun _ hk => hk.elim) ?aF ?aO ?aB ?aS ?aL ?_; (case aP => exact rfl); (case aB => exact blw_); (case aF => exact (fun k_ hk => Kd.fresh' (Kd.R_lt (by (with_reducible repeat (first | apply Kd.R_alloc | apply Kd.R_drewN | apply Kd.R_drew)); exact HO_5.out)) k_ hk)); (case aO => exact (by (with_reducible repeat (first | apply Kd.R_alloc | apply Kd.R_drewN | apply Kd.R_drew)); exact HO_6.out)); (case aS => exact (below_size blw_)); (case aL => have := LMc31.out; omega); intro v337 w33 ho hb hg hat; rw [← Ny336.out] at ho; have n0_ := Aside0.mk (Kd.V_afterv (ok := (fun k_ => some k_ ≠ (.slice Ao32 t321.length co32 : Value).ownBlock)) (by (with_reducible repeat (first | apply Kd.V_alloc | apply Kd.V_drewN | apply Kd.V_drew)); exact HO_3.out) hg hat); have n1_ := Aside0.mk (Kd.R_after (ok := (fun _ => True)) (by (with_reducible repeat (first | apply Kd.R_alloc | apply Kd.R_drewN | apply Kd.R_drew)); exact Kd.R_mono HO_5.out (fun _ hk => ⟨trivial, hk⟩)) hg hat); have n2_ := Aside0.mk (hb); have n3_ := Aside0.mk (ho); clear HO_3; clear HO_5; clear HB; clear HO_6; have HO_3 := n0_; have HO_5 := n1_; have HB := n2_; have HO338 := n3_; clear n0_ n1_ n2_ n3_; clear ho hb hg hat))
          go_roundg k2
          case measure => have := HJ4.out; have := HK2.out; omega
          case rel => exact ⟨(y336), (wrap64 (x7_2 + 1)), (by first | rfl | (simp; done) | (simp [*]; done)), H', ⟨by have := HJ4.out; have := HK2.out; omega⟩, ⟨by (with_reducible repeat (first | apply Kd.V_alloc | apply Kd.V_drewN | apply Kd.V_drew)); exact HO_3.out⟩, ⟨by (with_reducible repeat (first | apply Kd.R_alloc | apply Kd.R_drewN | apply Kd.R_drew)); exact Kd.R_mono HO_5.out (fun _ hk => hk.2)⟩, ⟨rw_ HO338.out⟩, ⟨blw_⟩⟩
         ·rw [if_neg c31] at H
          exact absurd H (by simp)
       ·rw [if_neg c27] at H
        have c27b0 : decide (x7_2 < (t315.length : Int)) = false := decide_eq_false c27
        clear c27
        replace H := Option.bind_eq_some_iff.mp H
        obtain ⟨t339, A340, H⟩ := H
        replace H : (some t339) = some r := H
        have A34 := Aside0.mk A340
        clear A340
        obtain rfl := Option.some.inj H
        obtain ⟨Ao35, co35, eo35⟩ := Kd.R_slice HO_6.out
        subst eo35
        go_wp2_with (first | ((with_reducible refine gate_callee (f := 14) rfl ?_); refine goesC_ (some 52) Tryd.func14 #[.slice Ao7 t315.length co7, .slice Ao35 x6_2.length co35] ?_; (with_reducible refine (impl_ValidDone.calls _ _ t315 _ _ x6_2 t339 _ ?side1 ?side2 ?side3 ?side4 A34.out ?sideT).mono ?_); (case sideT => first | exact HT_.out.below blw_ HT_.out.pos | exact HT_.out); (case side1 => exact cw_ (Kd.V_reads' HO_3.out).2.2); (case side2 => exact (Kd.V_reads' HO_3.out).2.1); (case side3 => exact cw_ (Kd.R_reads' HO_6.out).2.2); (case side4 => exact (Kd.R_reads' HO_6.out).2.1); rintro e w36 ⟨rfl, hb⟩; refine ⟨_, rfl, ?_⟩; have n0_ := Aside0.mk (Kd.V_below (by (with_reducible repeat (first | apply Kd.V_alloc | apply Kd.V_drewN | apply Kd.V_drew)); exact HO_3.out) hb); have n1_ := Aside0.mk (Kd.R_below (by (with_reducible repeat (first | apply Kd.R_alloc | apply Kd.R_drewN | apply Kd.R_drew)); exact HO_5.out) hb); have n2_ := Aside0.mk (Kd.R_below (by (with_reducible repeat (first | apply Kd.R_alloc | apply Kd.R_drewN | apply Kd.R_drew)); exact HO_6.out) hb); have n3_ := Aside0.mk (below_step blw_ hb); clear HO_3; clear HO_5; clear HO_6; clear HB; have HO_3 := n0_; have HO_5 := n1_; have HO_6 := n2_; have HB := n3_; clear n0_ n1_ n2_ n3_; (try clear hb); (try clear hb2); (try clear hk); (try clear hi)))
        go_ret
        exact ⟨by first | rfl | (simp [errW_none, errW_some] <;> rfl) | (simp [*, errW_none, errW_some] <;> rfl), blw_⟩

/-- THE ONE PURE STATEMENT of laws_FnStaleTasksDone: yours. -/
def laws_FnStaleTasksDone.Pure : Prop := ∀ (l0 : List Int), l0.length ≤ maxLen → l0.length * 1 ≤ 140737488351232 → (∀ x ∈ l0, (Lit.int .u8 x).wf = true) → ∃ k, laws_FnStaleTasksDone.f k l0 = some true
theorem laws_FnStaleTasksDone.walk (P : laws_FnStaleTasksDone.Pure) (a0 : Option Addr) (len0 cap0 : Nat) (z0 : List Int) (w : World) (w0 : (a0 = none ∧ len0 = 0 ∧ cap0 = 0 ∧ z0 = []) ∨ ∃ x, a0 = some x ∧ len0 ≤ cap0 ∧ cap0 ≤ maxLen ∧ z0.length = cap0 ∧ (∀ i, i < z0.length → w.cell? (x.add i) = some (.int .u8 (z0.getD i 0))) ∧ ∀ n ∈ z0, (Lit.int .u8 n).wf = true) (y0 : len0 * 1 ≤ 140737488351232) (hT_ : Tab w) :
  Calls Tryd.prog 3 #[.slice a0 len0 cap0] w fun e w' => e = .returned (.bool true) ∧ Below w.heap.size w w' := by
 obtain ⟨l0, rfl, hr0, hm0, hw0, hc0⟩ := ReadsInt.ofRowC w0
 obtain ⟨k, h⟩ := P l0 hm0 y0 hw0
 refine (laws_FnStaleTasksDone.calls k _ _ l0 true w (Kd.C_of_reads (d := (0 : Int)) (h1 := fun _ => rfl) hr0) hc0 h hT_).mono ?_
 rintro e w' ⟨rfl, hd⟩
 exact ⟨rfl, hd⟩

end Go.Proofs.YtgdoajmgheokbaaDoor.G
