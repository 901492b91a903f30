-- SLIM
-- Written by hyb.py, a driver of this session round the print.py of the kit. Lean checks it.
import Derived.Test.YtcmhdcjdgchnfaaDoorWRepsOne
import Derived.Test.YtcmhdcjdgchnfaaDoorG0
import Derived.Test.YtcmhdcjdgchnfaaDoorG5
import Derived.Test.YtcmhdcjdgchnfaaDoorG7
import Derived.Test.YtcmhdcjdgchnfaaDoorHDrawM
import Derived.Test.YtcmhdcjdgchnfaaDoorHKeys
import Derived.Test.YtcmhdcjdgchnfaaDoorHMiss
import Derived.Test.YtcmhdcjdgchnfaaDoorHRel
namespace Go.Proofs.YtcmhdcjdgchnfaaDoor.G
open Go.RowKit Go.Proofs.YtcmhdcjdgchnfaaDoorW.PrintWords Go.Proofs.YtcmhdcjdgchnfaaDoorW.PrintLast Go.Proofs.YtcmhdcjdgchnfaaDoorW.PrintMore
attribute [local go_sem] max2_int min2_int max_two min_two max_three min_three max_four min_four   -- for this text's walks alone
set_option linter.unusedVariables false
set_option linter.unusedSimpArgs false

/-! ### laws_FnMissingKeysNone: function 5 -/
def laws_FnMissingKeysNone.j0 : Nat → List (S69) → List Int → List Int → List Int → Bool → Option (Bool)
 | 0, _, _, _, _, _ => none
 | k + 1, x3, x4, x5, x6, x35 => if x35 = true then ((spec_MissingKeys.f k x3 x4 x5).bind fun t380 => ((laws_equalInts.f k x6 t380).bind fun t383 => (some t383))) else ((impl_ValidGraph.f x3).bind fun t384 => (if t384 = true then (if (x4.length : Int) = (x3.length : Int) then ((impl_MissingKeys.f x3 x4 ([] : List Int)).bind fun t385 => (some ((t385.length : Int) == (x3.length : Int)))) else (some true)) else (some true)))
def laws_FnMissingKeysNone.f (k : Nat) (l0 : List Int) : Option (Bool) := if (l0.length : Int) > 1048576 then (some true) else ((spec_DrawMissingKeys.f l0).bind fun bt361 => ((impl_MissingKeys.f bt361.1 bt361.2.1 bt361.2.2).bind fun t370 => ((spec_MissingKeys.f k bt361.1 bt361.2.1 bt361.2.2).bind fun t373 => ((laws_equalInts.f k t370 t373).bind fun t376 => (if t376 = true then ((impl_TaskKeys.f bt361.1 bt361.2.1).bind fun t377 => (laws_FnMissingKeysNone.j0 k bt361.1 bt361.2.1 bt361.2.2 t370 ((t377.length : Int) != (bt361.1.length : Int)))) else (laws_FnMissingKeysNone.j0 k bt361.1 bt361.2.1 bt361.2.2 t370 true))))))
set_option maxHeartbeats 8000000 in
set_option maxRecDepth 100000 in
theorem laws_FnMissingKeysNone.calls (k : Nat) (A0 : Option Addr) (c0 : Nat) (l0 : List Int) (r : Bool) (w : World) (hr0 : Kd.C (Kd.int .u8) w A0 l0.length l0) (hc0 : l0.length ≤ c0) (h : laws_FnMissingKeysNone.f k l0 = some r) (hT_ : Tab w) :
  Calls Tryd.prog 5 #[.slice A0 l0.length c0] w fun e w' => e = .returned (.bool r) ∧ Below w.heap.size w w' := by
 have HTAB_ := Aside0.mk hT_
 clear hT_
 have HR0 := Aside0.mk hr0
 have HC0 := Aside0.mk hc0
 clear hr0 hc0
 have HB := Aside0.mk (Below.refl w.heap.size w)
 have H : (if (l0.length : Int) > 1048576 then (some true) else ((spec_DrawMissingKeys.f l0).bind fun bt361 => ((impl_MissingKeys.f bt361.1 bt361.2.1 bt361.2.2).bind fun t370 => ((spec_MissingKeys.f k bt361.1 bt361.2.1 bt361.2.2).bind fun t373 => ((laws_equalInts.f k t370 t373).bind fun t376 => (if t376 = true then ((impl_TaskKeys.f bt361.1 bt361.2.1).bind fun t377 => (laws_FnMissingKeysNone.j0 k bt361.1 bt361.2.1 bt361.2.2 t370 ((t377.length : Int) != (bt361.1.length : Int)))) else (laws_FnMissingKeysNone.j0 k bt361.1 bt361.2.1 bt361.2.2 t370 true))))))) = some r := h
 clear h
 by_cases c2 : (l0.length : Int) > 1048576
 ·rw [if_pos c2] at H
  have c2b0 : decide (1048576 < (l0.length : Int)) = true := decide_eq_true c2
  have c2b1 : decide (1048576 < l0.length) = true := decide_eq_true (by omega)
  clear c2
  obtain rfl := Option.some.inj H
  go_enter Tryd.func5, Tryd.ntmps5
  go_wp2
  go_ret
  exact ⟨by first | rfl | (simp [errW_none, errW_some] <;> rfl) | (simp [*, errW_none, errW_some] <;> rfl), blw_⟩
 ·rw [if_neg c2] at H
  have c2b0 : decide (1048576 < (l0.length : Int)) = false := decide_eq_false c2
  have c2b1 : decide (1048576 < l0.length) = false := decide_eq_false (by omega)
  clear c2
  replace H := Option.bind_eq_some_iff.mp H
  obtain ⟨⟨t361, t364, t367⟩, A30, H⟩ := H
  replace H : ((impl_MissingKeys.f t361 t364 t367).bind fun t370 => ((spec_MissingKeys.f k t361 t364 t367).bind fun t373 => ((laws_equalInts.f k t370 t373).bind fun t376 => (if t376 = true then ((impl_TaskKeys.f t361 t364).bind fun t377 => (laws_FnMissingKeysNone.j0 k t361 t364 t367 t370 ((t377.length : Int) != (t361.length : Int)))) else (laws_FnMissingKeysNone.j0 k t361 t364 t367 t370 true))))) = some r := H
  have A3 := Aside0.mk A30
  clear A30
  replace H := Option.bind_eq_some_iff.mp H
  obtain ⟨t370, A40, H⟩ := H
  replace H : ((spec_MissingKeys.f k t361 t364 t367).bind fun t373 => ((laws_equalInts.f k t370 t373).bind fun t376 => (if t376 = true then ((impl_TaskKeys.f t361 t364).bind fun t377 => (laws_FnMissingKeysNone.j0 k t361 t364 t367 t370 ((t377.length : Int) != (t361.length : Int)))) else (laws_FnMissingKeysNone.j0 k t361 t364 t367 t370 true)))) = some r := H
  have A4 := Aside0.mk A40
  clear A40
  have HC5 := Aside0.mk H
  clear H
  go_enter Tryd.func5, Tryd.ntmps5
  go_upto_region 5 with (first | ((with_reducible refine gate_callee (f := 15) rfl ?_); refine goesC_ (some 12) Tryd.func15 #[.slice A0 l0.length c0] ?_; (with_reducible refine (spec_DrawMissingKeys.calls _ _ l0 t361 t364 t367 _ ?side1 ?side2 A3.out).mono ?_); (case side1 => exact cw_ HR0.out); (case side2 => exact HC0.out); rintro e w6 ⟨v362, v365, v368, rfl, ho0, ho1, ho2, hb⟩; refine ⟨_, rfl, ?_⟩; have n0_ := Aside0.mk (Kd.V_lower (Kd.V_mono (ok' := fun k_ => True) ho0 (fun k_ hk_ => trivial)) (below_size blw_)); have n1_ := Aside0.mk (Kd.V_lower (Kd.V_mono (ok' := fun k_ => True) ho1 (fun k_ hk_ => trivial)) (below_size blw_)); have n2_ := Aside0.mk (Kd.V_lower (Kd.V_mono (ok' := fun k_ => True) ho2 (fun k_ hk_ => trivial)) (below_size blw_)); have n3_ := Aside0.mk (below_step blw_ hb); clear HB; have HO363 := n0_; have HO366 := n1_; have HO369 := n2_; have HB := n3_; clear n0_ n1_ n2_ n3_; (try clear hb); (try clear hb2); (try clear hk); (try clear hi); (try clear ho0); (try clear ho1); (try clear ho2); obtain ⟨Ao7, co7, eo7⟩ := Kd.V_slice HO363.out; subst eo7; obtain ⟨Ao8, co8, eo8⟩ := Kd.V_slice HO366.out; subst eo8; obtain ⟨Ao9, co9, eo9⟩ := Kd.V_slice HO369.out; subst eo9) | ((with_reducible refine gate_callee (f := 16) rfl ?_); refine goesC_ (some 19) Tryd.func16 #[.slice Ao7 t361.length co7, .slice Ao8 t364.length co8, .slice Ao9 t367.length co9] ?_; (with_reducible refine (impl_MissingKeys.calls _ _ t361 _ _ t364 _ _ t367 t370 _ ?side1 ?side2 ?side3 ?side4 ?side5 ?side6 A4.out ?sideT).mono ?_); (case sideT => first | exact HTAB_.out.below blw_ HTAB_.out.pos | exact HTAB_.out); (case side1 => exact cw_ (Kd.V_reads' HO363.out).2.2); (case side2 => exact (Kd.V_reads' HO363.out).2.1); (case side3 => exact cw_ (Kd.V_reads' HO366.out).2.2); (case side4 => exact (Kd.V_reads' HO366.out).2.1); (case side5 => exact cw_ (Kd.V_reads' HO369.out).2.2); (case side6 => exact (Kd.V_reads' HO369.out).2.1); rintro e w10 ⟨v371, rfl, ho0, hb⟩; refine ⟨_, rfl, ?_⟩; have n0_ := Aside0.mk (Kd.V_elder' (by (with_reducible repeat (first | apply Kd.V_alloc | apply Kd.V_drewN | apply Kd.V_drew)); exact HO363.out) (Kd.R_base ho0) hb); have n1_ := Aside0.mk (Kd.V_elder' (by (with_reducible repeat (first | apply Kd.V_alloc | apply Kd.V_drewN | apply Kd.V_drew)); exact HO366.out) (Kd.R_base ho0) hb); have n2_ := Aside0.mk (Kd.V_elder' (by (with_reducible repeat (first | apply Kd.V_alloc | apply Kd.V_drewN | apply Kd.V_drew)); exact HO369.out) (Kd.R_base ho0) hb); have n3_ := Aside0.mk (Kd.R_lower ho0 (below_size blw_)); have n4_ := Aside0.mk (below_step blw_ hb); clear HO363; clear HO366; clear HO369; clear HB; have HO363 := n0_; have HO366 := n1_; have HO369 := n2_; have HO372 := n3_; have HB := n4_; clear n0_ n1_ n2_ n3_ n4_; (try clear hb); (try clear hb2); (try clear hk); (try clear hi); (try clear ho0)))
  (try simp only [Act.put, List.setIfInBounds_toArray, List.set_cons_zero, List.set_cons_succ])
  go_cut [35] (fun v35 wc => ∃ (kq : Nat) (x35_4 : Bool), v35 = .bool x35_4 ∧ Aside0 (laws_FnMissingKeysNone.j0 kq t361 t364 t367 t370 x35_4 = some r) ∧ Aside0 (kq ≤ k) ∧ Aside0 (Kd.V k69 69 wc w.heap.size (fun k_ => some k_ ≠ (v371 : Value).ownBlock) (.slice Ao7 t361.length co7) t361) ∧ Aside0 (Kd.V (Kd.int .i64) 3 wc w.heap.size (fun k_ => some k_ ≠ (v371 : Value).ownBlock) (.slice Ao8 t364.length co8) t364) ∧ Aside0 (Kd.V (Kd.int .i64) 3 wc w.heap.size (fun k_ => some k_ ≠ (v371 : Value).ownBlock) (.slice Ao9 t367.length co9) t367) ∧ Aside0 (Kd.R (Kd.int .i64) 3 wc w.heap.size (fun _ => True) v371 t370) ∧ Aside0 (Below w.heap.size w wc))
  case first =>
   have H := HC5.out
   clear HC5
   replace H := Option.bind_eq_some_iff.mp H
   obtain ⟨t373, A110, H⟩ := H
   replace H : ((laws_equalInts.f k t370 t373).bind fun t376 => (if t376 = true then ((impl_TaskKeys.f t361 t364).bind fun t377 => (laws_FnMissingKeysNone.j0 k t361 t364 t367 t370 ((t377.length : Int) != (t361.length : Int)))) else (laws_FnMissingKeysNone.j0 k t361 t364 t367 t370 true))) = some r := H
   have A11 := Aside0.mk A110
   clear A110
   replace H := Option.bind_eq_some_iff.mp H
   obtain ⟨t376, A120, H⟩ := H
   replace H : (if t376 = true then ((impl_TaskKeys.f t361 t364).bind fun t377 => (laws_FnMissingKeysNone.j0 k t361 t364 t367 t370 ((t377.length : Int) != (t361.length : Int)))) else (laws_FnMissingKeysNone.j0 k t361 t364 t367 t370 true)) = some r := H
   have A12 := Aside0.mk A120
   clear A120
   by_cases c13 : t376 = true
   ·subst c13
    have H1 : ((impl_TaskKeys.f t361 t364).bind fun t377 => (laws_FnMissingKeysNone.j0 k t361 t364 t367 t370 ((t377.length : Int) != (t361.length : Int)))) = some r := by rw [if_pos rfl] at H; exact H
    clear H
    have H := H1
    clear H1
    replace H := Option.bind_eq_some_iff.mp H
    obtain ⟨t377, A140, H⟩ := H
    replace H : (laws_FnMissingKeysNone.j0 k t361 t364 t367 t370 ((t377.length : Int) != (t361.length : Int))) = some r := H
    have A14 := Aside0.mk A140
    clear A140
    have H' := Aside0.mk H
    clear H
    go_wp2_with (first | ((with_reducible refine gate_callee (f := 17) rfl ?_); refine goesC_ (some 24) Tryd.func17 #[.slice Ao7 t361.length co7, .slice Ao8 t364.length co8, .slice Ao9 t367.length co9] ?_; (with_reducible refine (spec_MissingKeys.calls k _ _ t361 _ _ t364 _ _ t367 t373 _ ?side1 ?side2 ?side3 ?side4 ?side5 ?side6 A11.out).mono ?_); (case side1 => exact cw_ (Kd.V_reads' HO363.out).2.2); (case side2 => exact (Kd.V_reads' HO363.out).2.1); (case side3 => exact cw_ (Kd.V_reads' HO366.out).2.2); (case side4 => exact (Kd.V_reads' HO366.out).2.1); (case side5 => exact cw_ (Kd.V_reads' HO369.out).2.2); (case side6 => exact (Kd.V_reads' HO369.out).2.1); rintro e w15 ⟨v374, rfl, ho0, hb⟩; refine ⟨_, rfl, ?_⟩; have n0_ := Aside0.mk (Kd.V_elder' (by (with_reducible repeat (first | apply Kd.V_alloc | apply Kd.V_drewN | apply Kd.V_drew)); exact HO363.out) (Kd.R_base ho0) hb); have n1_ := Aside0.mk (Kd.V_elder' (by (with_reducible repeat (first | apply Kd.V_alloc | apply Kd.V_drewN | apply Kd.V_drew)); exact HO366.out) (Kd.R_base ho0) hb); have n2_ := Aside0.mk (Kd.V_elder' (by (with_reducible repeat (first | apply Kd.V_alloc | apply Kd.V_drewN | apply Kd.V_drew)); exact HO369.out) (Kd.R_base ho0) hb); have n3_ := Aside0.mk (Kd.R_elder' (by (with_reducible repeat (first | apply Kd.R_alloc | apply Kd.R_drewN | apply Kd.R_drew)); exact HO372.out) (Kd.R_base ho0) hb); have n4_ := Aside0.mk (Kd.R_lower (Kd.R_new' ho0 (Kd.R_lt (by (with_reducible repeat (first | apply Kd.R_alloc | apply Kd.R_drewN | apply Kd.R_drew)); exact HO372.out))) (below_size blw_)); have n5_ := Aside0.mk (below_step blw_ hb); clear HO363; clear HO366; clear HO369; clear HO372; clear HB; have HO363 := n0_; have HO366 := n1_; have HO369 := n2_; have HO372 := n3_; have HO375 := n4_; have HB := n5_; clear n0_ n1_ n2_ n3_ n4_ n5_; (try clear hb); (try clear hb2); (try clear hk); (try clear hi); (try clear ho0); obtain ⟨Ao16, co16, eo16⟩ := Kd.R_slice HO372.out; subst eo16; obtain ⟨Ao17, co17, eo17⟩ := Kd.R_slice HO375.out; subst eo17) | ((with_reducible refine gate_callee (f := 11) rfl ?_); refine goesC_ (some 25) Tryd.func11 #[.slice Ao16 t370.length co16, .slice Ao17 t373.length co17] ?_; (with_reducible refine (laws_equalInts.calls k _ _ t370 _ _ t373 true _ ?side1 ?side2 ?side3 ?side4 A12.out).mono ?_); (case side1 => exact cw_ (Kd.R_reads' HO372.out).2.2); (case side2 => exact (Kd.R_reads' HO372.out).2.1); (case side3 => exact cw_ (Kd.R_reads' HO375.out).2.2); (case side4 => exact (Kd.R_reads' HO375.out).2.1); rintro e w' ⟨rfl, ⟨nd, rfl⟩⟩; refine ⟨_, rfl, ?_⟩) | (go_at_call 10; (with_reducible refine (impl_TaskKeys.calls _ _ t361 _ _ t364 t377 _ ?side1 ?side2 ?side3 ?side4 A14.out ?sideT).mono ?_); (case sideT => first | exact HTAB_.out.below blw_ HTAB_.out.pos | exact HTAB_.out); (case side1 => exact cw_ (Kd.V_reads' HO363.out).2.2); (case side2 => exact (Kd.V_reads' HO363.out).2.1); (case side3 => exact cw_ (Kd.V_reads' HO366.out).2.2); (case side4 => exact (Kd.V_reads' HO366.out).2.1); rintro e w18 ⟨v378, rfl, ho0, hb⟩; have n0_ := Aside0.mk (Kd.V_elder' (by (with_reducible repeat (first | apply Kd.V_alloc | apply Kd.V_drewN | apply Kd.V_drew)); exact HO363.out) (Kd.R_base ho0) hb); have n1_ := Aside0.mk (Kd.V_elder' (by (with_reducible repeat (first | apply Kd.V_alloc | apply Kd.V_drewN | apply Kd.V_drew)); exact HO366.out) (Kd.R_base ho0) hb); have n2_ := Aside0.mk (Kd.V_elder' (by (with_reducible repeat (first | apply Kd.V_alloc | apply Kd.V_drewN | apply Kd.V_drew)); exact HO369.out) (Kd.R_base ho0) hb); have n3_ := Aside0.mk (Kd.R_elder' (by (with_reducible repeat (first | apply Kd.R_alloc | apply Kd.R_drewN | apply Kd.R_drew)); exact HO372.out) (Kd.R_base ho0) hb); have n4_ := Aside0.mk (Kd.R_elder' (by (with_reducible repeat (first | apply Kd.R_alloc | apply Kd.R_drewN | apply Kd.R_drew)); exact HO375.out) (Kd.R_base ho0) hb); have n5_ := Aside0.mk (Kd.R_lower (Kd.R_new' (Kd.R_new' ho0 (Kd.R_lt (by (with_reducible repeat (first | apply Kd.R_alloc | apply Kd.R_drewN | apply Kd.R_drew)); exact HO372.out))) (Kd.R_lt (by (with_reducible repeat (first | apply Kd.R_alloc | apply Kd.R_drewN | apply Kd.R_drew)); exact HO375.out))) (below_size blw_)); have n6_ := Aside0.mk (below_step blw_ hb); clear HO363; clear HO366; clear HO369; clear HO372; clear HO375; clear HB; have HO363 := n0_; have HO366 := n1_; have HO369 := n2_; have HO372 := n3_; have HO375 := n4_; have HO379 := n5_; have HB := n6_; clear n0_ n1_ n2_ n3_ n4_ n5_ n6_; (try clear hb); (try clear hb2); (try clear hk); (try clear hi); (try clear ho0); obtain ⟨Ao19, co19, eo19⟩ := Kd.R_slice HO379.out; subst eo19))
    go_meet
    case rel => exact ⟨_, (((t377.length : Int) != (t361.length : Int))), (by first | rfl | (simp; done) | (simp [*]; done)), H', ⟨by first | omega | exact Nat.le_refl _⟩, ⟨by (with_reducible repeat (first | apply Kd.V_alloc | apply Kd.V_drewN | apply Kd.V_drew)); exact Kd.V_mono HO363.out (fun _ hk => hk.1.1.2)⟩, ⟨by (with_reducible repeat (first | apply Kd.V_alloc | apply Kd.V_drewN | apply Kd.V_drew)); exact Kd.V_mono HO366.out (fun _ hk => hk.1.1.2)⟩, ⟨by (with_reducible repeat (first | apply Kd.V_alloc | apply Kd.V_drewN | apply Kd.V_drew)); exact Kd.V_mono HO369.out (fun _ hk => hk.1.1.2)⟩, ⟨by (with_reducible repeat (first | apply Kd.R_alloc | apply Kd.R_drewN | apply Kd.R_drew)); exact Kd.R_mono HO372.out (fun _ hk => trivial)⟩, ⟨blw_⟩⟩
   ·replace c13 := Bool.eq_false_iff.mpr c13
    subst c13
    have H1 : (laws_FnMissingKeysNone.j0 k t361 t364 t367 t370 true) = some r := by rw [if_neg (show ¬ (false = true) by decide)] at H; exact H
    clear H
    have H := H1
    clear H1
    have H' := Aside0.mk H
    clear H
    go_wp2_with (first | ((with_reducible refine gate_callee (f := 17) rfl ?_); refine goesC_ (some 24) Tryd.func17 #[.slice Ao7 t361.length co7, .slice Ao8 t364.length co8, .slice Ao9 t367.length co9] ?_; (with_reducible refine (spec_MissingKeys.calls k _ _ t361 _ _ t364 _ _ t367 t373 _ ?side1 ?side2 ?side3 ?side4 ?side5 ?side6 A11.out).mono ?_); (case side1 => exact cw_ (Kd.V_reads' HO363.out).2.2); (case side2 => exact (Kd.V_reads' HO363.out).2.1); (case side3 => exact cw_ (Kd.V_reads' HO366.out).2.2); (case side4 => exact (Kd.V_reads' HO366.out).2.1); (case side5 => exact cw_ (Kd.V_reads' HO369.out).2.2); (case side6 => exact (Kd.V_reads' HO369.out).2.1); rintro e w20 ⟨v374, rfl, ho0, hb⟩; refine ⟨_, rfl, ?_⟩; have n0_ := Aside0.mk (Kd.V_elder' (by (with_reducible repeat (first | apply Kd.V_alloc | apply Kd.V_drewN | apply Kd.V_drew)); exact HO363.out) (Kd.R_base ho0) hb); have n1_ := Aside0.mk (Kd.V_elder' (by (with_reducible repeat (first | apply Kd.V_alloc | apply Kd.V_drewN | apply Kd.V_drew)); exact HO366.out) (Kd.R_base ho0) hb); have n2_ := Aside0.mk (Kd.V_elder' (by (with_reducible repeat (first | apply Kd.V_alloc | apply Kd.V_drewN | apply Kd.V_drew)); exact HO369.out) (Kd.R_base ho0) hb); have n3_ := Aside0.mk (Kd.R_elder' (by (with_reducible repeat (first | apply Kd.R_alloc | apply Kd.R_drewN | apply Kd.R_drew)); exact HO372.out) (Kd.R_base ho0) hb); have n4_ := Aside0.mk (Kd.R_lower (Kd.R_new' ho0 (Kd.R_lt (by (with_reducible repeat (first | apply Kd.R_alloc | apply Kd.R_drewN | apply Kd.R_drew)); exact HO372.out))) (below_size blw_)); have n5_ := Aside0.mk (below_step blw_ hb); clear HO363; clear HO366; clear HO369; clear HO372; clear HB; have HO363 := n0_; have HO366 := n1_; have HO369 := n2_; have HO372 := n3_; have HO375 := n4_; have HB := n5_; clear n0_ n1_ n2_ n3_ n4_ n5_; (try clear hb); (try clear hb2); (try clear hk); (try clear hi); (try clear ho0); obtain ⟨Ao21, co21, eo21⟩ := Kd.R_slice HO372.out; subst eo21; obtain ⟨Ao22, co22, eo22⟩ := Kd.R_slice HO375.out; subst eo22) | ((with_reducible refine gate_callee (f := 11) rfl ?_); refine goesC_ (some 25) Tryd.func11 #[.slice Ao21 t370.length co21, .slice Ao22 t373.length co22] ?_; (with_reducible refine (laws_equalInts.calls k _ _ t370 _ _ t373 false _ ?side1 ?side2 ?side3 ?side4 A12.out).mono ?_); (case side1 => exact cw_ (Kd.R_reads' HO372.out).2.2); (case side2 => exact (Kd.R_reads' HO372.out).2.1); (case side3 => exact cw_ (Kd.R_reads' HO375.out).2.2); (case side4 => exact (Kd.R_reads' HO375.out).2.1); rintro e w' ⟨rfl, ⟨nd, rfl⟩⟩; refine ⟨_, rfl, ?_⟩))
    go_meet
    case rel => exact ⟨_, (true), (by first | rfl | (simp; done) | (simp [*]; done)), H', ⟨by first | omega | exact Nat.le_refl _⟩, ⟨by (with_reducible repeat (first | apply Kd.V_alloc | apply Kd.V_drewN | apply Kd.V_drew)); exact Kd.V_mono HO363.out (fun _ hk => hk.1.2)⟩, ⟨by (with_reducible repeat (first | apply Kd.V_alloc | apply Kd.V_drewN | apply Kd.V_drew)); exact Kd.V_mono HO366.out (fun _ hk => hk.1.2)⟩, ⟨by (with_reducible repeat (first | apply Kd.V_alloc | apply Kd.V_drewN | apply Kd.V_drew)); exact Kd.V_mono HO369.out (fun _ hk => hk.1.2)⟩, ⟨by (with_reducible repeat (first | apply Kd.R_alloc | apply Kd.R_drewN | apply Kd.R_drew)); exact Kd.R_mono HO372.out (fun _ hk => trivial)⟩, ⟨blw_⟩⟩
  case rest =>
   clear HC5
   try clear c1
   try clear c2
   try clear c2b0
   try clear c2b1
   try clear p2
   try clear c5
   try clear c11
   try clear c13
   try clear c15
   try clear c16
   try clear c17
   obtain ⟨kq, x35_4, rfl, HA, HJ4, HO_3, HO_4, HO_5, HO_6, HB⟩ := hcut
   cases kq with
   | zero => exact absurd HA.out (by simp [laws_FnMissingKeysNone.j0])
   | succ kj4 =>
    have H := HA.out
    clear HA
    simp only [laws_FnMissingKeysNone.j0] at H
    by_cases c23 : x35_4 = true
    ·subst c23
     have H1 : ((spec_MissingKeys.f kj4 t361 t364 t367).bind fun t380 => ((laws_equalInts.f kj4 t370 t380).bind fun t383 => (some t383))) = some r := by rw [if_pos rfl] at H; exact H
     clear H
     have H := H1
     clear H1
     replace H := Option.bind_eq_some_iff.mp H
     obtain ⟨t380, A240, H⟩ := H
     replace H : ((laws_equalInts.f kj4 t370 t380).bind fun t383 => (some t383)) = some r := H
     have A24 := Aside0.mk A240
     clear A240
     replace H := Option.bind_eq_some_iff.mp H
     obtain ⟨t383, A250, H⟩ := H
     replace H : (some t383) = some r := H
     have A25 := Aside0.mk A250
     clear A250
     obtain rfl := Option.some.inj H
     go_wp2_with (first | ((with_reducible refine gate_callee (f := 17) rfl ?_); refine goesC_ (some 40) Tryd.func17 #[.slice Ao7 t361.length co7, .slice Ao8 t364.length co8, .slice Ao9 t367.length co9] ?_; (with_reducible refine (spec_MissingKeys.calls kj4 _ _ t361 _ _ t364 _ _ t367 t380 _ ?side1 ?side2 ?side3 ?side4 ?side5 ?side6 A24.out).mono ?_); (case side1 => exact cw_ (Kd.V_reads' HO_3.out).2.2); (case side2 => exact (Kd.V_reads' HO_3.out).2.1); (case side3 => exact cw_ (Kd.V_reads' HO_4.out).2.2); (case side4 => exact (Kd.V_reads' HO_4.out).2.1); (case side5 => exact cw_ (Kd.V_reads' HO_5.out).2.2); (case side6 => exact (Kd.V_reads' HO_5.out).2.1); rintro e w26 ⟨v381, rfl, ho0, hb⟩; refine ⟨_, rfl, ?_⟩; have n0_ := Aside0.mk (Kd.V_elder' (by (with_reducible repeat (first | apply Kd.V_alloc | apply Kd.V_drewN | apply Kd.V_drew)); exact HO_3.out) (Kd.R_base ho0) hb); have n1_ := Aside0.mk (Kd.V_elder' (by (with_reducible repeat (first | apply Kd.V_alloc | apply Kd.V_drewN | apply Kd.V_drew)); exact HO_4.out) (Kd.R_base ho0) hb); have n2_ := Aside0.mk (Kd.V_elder' (by (with_reducible repeat (first | apply Kd.V_alloc | apply Kd.V_drewN | apply Kd.V_drew)); exact HO_5.out) (Kd.R_base ho0) hb); have n3_ := Aside0.mk (Kd.R_elder' (by (with_reducible repeat (first | apply Kd.R_alloc | apply Kd.R_drewN | apply Kd.R_drew)); exact HO_6.out) (Kd.R_base ho0) hb); have n4_ := Aside0.mk (Kd.R_lower (Kd.R_new' ho0 (Kd.R_lt (by (with_reducible repeat (first | apply Kd.R_alloc | apply Kd.R_drewN | apply Kd.R_drew)); exact HO_6.out))) (below_size blw_)); have n5_ := Aside0.mk (below_step blw_ hb); clear HO_3; clear HO_4; clear HO_5; clear HO_6; clear HB; have HO_3 := n0_; have HO_4 := n1_; have HO_5 := n2_; have HO_6 := n3_; have HO382 := n4_; have HB := n5_; clear n0_ n1_ n2_ n3_ n4_ n5_; (try clear hb); (try clear hb2); (try clear hk); (try clear hi); (try clear ho0); obtain ⟨Ao27, co27, eo27⟩ := Kd.R_slice HO_6.out; subst eo27; obtain ⟨Ao28, co28, eo28⟩ := Kd.R_slice HO382.out; subst eo28) | ((with_reducible refine gate_callee (f := 11) rfl ?_); refine goesC_ (some 41) Tryd.func11 #[.slice Ao27 t370.length co27, .slice Ao28 t380.length co28] ?_; (with_reducible refine (laws_equalInts.calls kj4 _ _ t370 _ _ t380 t383 _ ?side1 ?side2 ?side3 ?side4 A25.out).mono ?_); (case side1 => exact cw_ (Kd.R_reads' HO_6.out).2.2); (case side2 => exact (Kd.R_reads' HO_6.out).2.1); (case side3 => exact cw_ (Kd.R_reads' HO382.out).2.2); (case side4 => exact (Kd.R_reads' HO382.out).2.1); rintro e w' ⟨rfl, ⟨nd, rfl⟩⟩; refine ⟨_, rfl, ?_⟩))
     go_ret
     exact ⟨by first | rfl | (simp [errW_none, errW_some] <;> rfl) | (simp [*, errW_none, errW_some] <;> rfl), blw_⟩
    ·replace c23 := Bool.eq_false_iff.mpr c23
     subst c23
     have H1 : ((impl_ValidGraph.f t361).bind fun t384 => (if t384 = true then (if (t364.length : Int) = (t361.length : Int) then ((impl_MissingKeys.f t361 t364 ([] : List Int)).bind fun t385 => (some ((t385.length : Int) == (t361.length : Int)))) else (some true)) else (some true))) = some r := by rw [if_neg (show ¬ (false = true) by decide)] at H; exact H
     clear H
     have H := H1
     clear H1
     replace H := Option.bind_eq_some_iff.mp H
     obtain ⟨t384, A290, H⟩ := H
     replace H : (if t384 = true then (if (t364.length : Int) = (t361.length : Int) then ((impl_MissingKeys.f t361 t364 ([] : List Int)).bind fun t385 => (some ((t385.length : Int) == (t361.length : Int)))) else (some true)) else (some true)) = some r := H
     have A29 := Aside0.mk A290
     clear A290
     by_cases c30 : t384 = true
     ·subst c30
      have H1 : (if (t364.length : Int) = (t361.length : Int) then ((impl_MissingKeys.f t361 t364 ([] : List Int)).bind fun t385 => (some ((t385.length : Int) == (t361.length : Int)))) else (some true)) = some r := by rw [if_pos rfl] at H; exact H
      clear H
      have H := H1
      clear H1
      by_cases c31 : (t364.length : Int) = (t361.length : Int)
      ·rw [if_pos c31] at H
       have c31b0 : ((t364.length : Int) == (t361.length : Int)) = true := beq_iff_eq.mpr c31
       have c31b1 : ((t364.length : Int) != (t361.length : Int)) = false := bne_eq_false_iff_eq.mpr c31
       have c31b2 : (t364.length == t361.length) = true := by first | simpa using c31 | (simp at c31 ⊢; omega)
       clear c31
       replace H := Option.bind_eq_some_iff.mp H
       obtain ⟨t385, A320, H⟩ := H
       replace H : (some ((t385.length : Int) == (t361.length : Int))) = some r := H
       have A32 := Aside0.mk A320
       clear A320
       obtain rfl := Option.some.inj H
       go_wp2_with (first | ((with_reducible refine gate_callee (f := 18) rfl ?_); refine goesC_ (some 43) Tryd.func18 #[.slice Ao7 t361.length co7] ?_; (with_reducible refine (impl_ValidGraph.calls _ _ t361 true _ ?side1 ?side2 A29.out ?sideT).mono ?_); (case sideT => first | exact HTAB_.out.below blw_ HTAB_.out.pos | exact HTAB_.out); (case side1 => exact cw_ (Kd.V_reads' HO_3.out).2.2); (case side2 => exact (Kd.V_reads' HO_3.out).2.1); rintro e w33 ⟨rfl, hb⟩; refine ⟨_, rfl, ?_⟩; have n0_ := Aside0.mk (Kd.V_below (by (with_reducible repeat (first | apply Kd.V_alloc | apply Kd.V_drewN | apply Kd.V_drew)); exact HO_3.out) hb); have n1_ := Aside0.mk (Kd.V_below (by (with_reducible repeat (first | apply Kd.V_alloc | apply Kd.V_drewN | apply Kd.V_drew)); exact HO_4.out) hb); have n2_ := Aside0.mk (Kd.V_below (by (with_reducible repeat (first | apply Kd.V_alloc | apply Kd.V_drewN | apply Kd.V_drew)); exact HO_5.out) hb); have n3_ := Aside0.mk (Kd.R_below (by (with_reducible repeat (first | apply Kd.R_alloc | apply Kd.R_drewN | apply Kd.R_drew)); exact HO_6.out) hb); have n4_ := Aside0.mk (below_step blw_ hb); clear HO_3; clear HO_4; clear HO_5; clear HO_6; clear HB; have HO_3 := n0_; have HO_4 := n1_; have HO_5 := n2_; have HO_6 := n3_; have HB := n4_; clear n0_ n1_ n2_ n3_ n4_; (try clear hb); (try clear hb2); (try clear hk); (try clear hi)) | (go_at_call 16; (refine (impl_MissingKeys.calls _ _ t361 _ _ t364 _ _ ([] : List Int) t385 _ ?side1 ?side2 ?side3 ?side4 ?side5 ?side6 A32.out ?sideT).mono ?_); (case sideT => first | exact HTAB_.out.below blw_ HTAB_.out.pos | exact HTAB_.out); (case side1 => exact cw_ (Kd.V_reads' HO_3.out).2.2); (case side2 => exact (Kd.V_reads' HO_3.out).2.1); (case side3 => exact cw_ (Kd.V_reads' HO_4.out).2.2); (case side4 => exact (Kd.V_reads' HO_4.out).2.1); (case side5 => exact Kd.C_nil _ _); (case side6 => exact Nat.le_refl _); rintro e w34 ⟨v386, rfl, ho0, hb⟩; have n0_ := Aside0.mk (Kd.V_elder' (by (with_reducible repeat (first | apply Kd.V_alloc | apply Kd.V_drewN | apply Kd.V_drew)); exact HO_3.out) (Kd.R_base ho0) hb); have n1_ := Aside0.mk (Kd.V_elder' (by (with_reducible repeat (first | apply Kd.V_alloc | apply Kd.V_drewN | apply Kd.V_drew)); exact HO_4.out) (Kd.R_base ho0) hb); have n2_ := Aside0.mk (Kd.V_elder' (by (with_reducible repeat (first | apply Kd.V_alloc | apply Kd.V_drewN | apply Kd.V_drew)); exact HO_5.out) (Kd.R_base ho0) hb); have n3_ := Aside0.mk (Kd.R_elder' (by (with_reducible repeat (first | apply Kd.R_alloc | apply Kd.R_drewN | apply Kd.R_drew)); exact HO_6.out) (Kd.R_base ho0) hb); have n4_ := Aside0.mk (Kd.R_lower (Kd.R_new' ho0 (Kd.R_lt (by (with_reducible repeat (first | apply Kd.R_alloc | apply Kd.R_drewN | apply Kd.R_drew)); exact HO_6.out))) (below_size blw_)); have n5_ := Aside0.mk (below_step blw_ hb); clear HO_3; clear HO_4; clear HO_5; clear HO_6; clear HB; have HO_3 := n0_; have HO_4 := n1_; have HO_5 := n2_; have HO_6 := n3_; have HO387 := n4_; have HB := n5_; clear n0_ n1_ n2_ n3_ n4_ n5_; (try clear hb); (try clear hb2); (try clear hk); (try clear hi); (try clear ho0); obtain ⟨Ao35, co35, eo35⟩ := Kd.R_slice HO387.out; subst eo35))
       go_ret
       exact ⟨by first | rfl | (simp [errW_none, errW_some] <;> rfl) | (simp [*, errW_none, errW_some] <;> rfl), blw_⟩
      ·rw [if_neg c31] at H
       have c31b0 : ((t364.length : Int) == (t361.length : Int)) = false := beq_eq_false_iff_ne.mpr c31
       have c31b1 : ((t364.length : Int) != (t361.length : Int)) = true := bne_iff_ne.mpr c31
       have c31b2 : (t364.length == t361.length) = false := by first | simpa using c31 | (simp at c31 ⊢; omega)
       obtain rfl := Option.some.inj H
       go_wp2_with (first | ((with_reducible refine gate_callee (f := 18) rfl ?_); refine goesC_ (some 43) Tryd.func18 #[.slice Ao7 t361.length co7] ?_; (with_reducible refine (impl_ValidGraph.calls _ _ t361 true _ ?side1 ?side2 A29.out ?sideT).mono ?_); (case sideT => first | exact HTAB_.out.below blw_ HTAB_.out.pos | exact HTAB_.out); (case side1 => exact cw_ (Kd.V_reads' HO_3.out).2.2); (case side2 => exact (Kd.V_reads' HO_3.out).2.1); rintro e w36 ⟨rfl, hb⟩; refine ⟨_, rfl, ?_⟩; have n0_ := Aside0.mk (Kd.V_below (by (with_reducible repeat (first | apply Kd.V_alloc | apply Kd.V_drewN | apply Kd.V_drew)); exact HO_3.out) hb); have n1_ := Aside0.mk (Kd.V_below (by (with_reducible repeat (first | apply Kd.V_alloc | apply Kd.V_drewN | apply Kd.V_drew)); exact HO_4.out) hb); have n2_ := Aside0.mk (Kd.V_below (by (with_reducible repeat (first | apply Kd.V_alloc | apply Kd.V_drewN | apply Kd.V_drew)); exact HO_5.out) hb); have n3_ := Aside0.mk (Kd.R_below (by (with_reducible repeat (first | apply Kd.R_alloc | apply Kd.R_drewN | apply Kd.R_drew)); exact HO_6.out) hb); have n4_ := Aside0.mk (below_step blw_ hb); clear HO_3; clear HO_4; clear HO_5; clear HO_6; clear HB; have HO_3 := n0_; have HO_4 := n1_; have HO_5 := n2_; have HO_6 := n3_; have HB := n4_; clear n0_ n1_ n2_ n3_ n4_; (try clear hb); (try clear hb2); (try clear hk); (try clear hi)))
       go_ret
       exact ⟨by first | rfl | (simp [errW_none, errW_some] <;> rfl) | (simp [*, errW_none, errW_some] <;> rfl), blw_⟩
     ·replace c30 := Bool.eq_false_iff.mpr c30
      subst c30
      have H1 : (some true) = some r := by rw [if_neg (show ¬ (false = true) by decide)] at H; exact H
      clear H
      have H := H1
      clear H1
      obtain rfl := Option.some.inj H
      go_wp2_with (first | ((with_reducible refine gate_callee (f := 18) rfl ?_); refine goesC_ (some 43) Tryd.func18 #[.slice Ao7 t361.length co7] ?_; (with_reducible refine (impl_ValidGraph.calls _ _ t361 false _ ?side1 ?side2 A29.out ?sideT).mono ?_); (case sideT => first | exact HTAB_.out.below blw_ HTAB_.out.pos | exact HTAB_.out); (case side1 => exact cw_ (Kd.V_reads' HO_3.out).2.2); (case side2 => exact (Kd.V_reads' HO_3.out).2.1); rintro e w37 ⟨rfl, hb⟩; refine ⟨_, rfl, ?_⟩; have n0_ := Aside0.mk (Kd.V_below (by (with_reducible repeat (first | apply Kd.V_alloc | apply Kd.V_drewN | apply Kd.V_drew)); exact HO_3.out) hb); have n1_ := Aside0.mk (Kd.V_below (by (with_reducible repeat (first | apply Kd.V_alloc | apply Kd.V_drewN | apply Kd.V_drew)); exact HO_4.out) hb); have n2_ := Aside0.mk (Kd.V_below (by (with_reducible repeat (first | apply Kd.V_alloc | apply Kd.V_drewN | apply Kd.V_drew)); exact HO_5.out) hb); have n3_ := Aside0.mk (Kd.R_below (by (with_reducible repeat (first | apply Kd.R_alloc | apply Kd.R_drewN | apply Kd.R_drew)); exact HO_6.out) hb); have n4_ := Aside0.mk (below_step blw_ hb); clear HO_3; clear HO_4; clear HO_5; clear HO_6; clear HB; have HO_3 := n0_; have HO_4 := n1_; have HO_5 := n2_; have HO_6 := n3_; have HB := n4_; clear n0_ n1_ n2_ n3_ n4_; (try clear hb); (try clear hb2); (try clear hk); (try clear hi)))
      go_ret
      exact ⟨by first | rfl | (simp [errW_none, errW_some] <;> rfl) | (simp [*, errW_none, errW_some] <;> rfl), blw_⟩

/-- THE ONE PURE STATEMENT of laws_FnMissingKeysNone: yours. -/
def laws_FnMissingKeysNone.Pure : Prop := ∀ (l0 : List Int), l0.length ≤ maxLen → l0.length * 1 ≤ 140737488351232 → (∀ x ∈ l0, (Lit.int .u8 x).wf = true) → ∃ k, laws_FnMissingKeysNone.f k l0 = some true
theorem laws_FnMissingKeysNone.walk (P : laws_FnMissingKeysNone.Pure) (a0 : Option Addr) (len0 cap0 : Nat) (z0 : List Int) (w : World) (w0 : (a0 = none ∧ len0 = 0 ∧ cap0 = 0 ∧ z0 = []) ∨ ∃ x, a0 = some x ∧ len0 ≤ cap0 ∧ cap0 ≤ maxLen ∧ z0.length = cap0 ∧ (∀ i, i < z0.length → w.cell? (x.add i) = some (.int .u8 (z0.getD i 0))) ∧ ∀ n ∈ z0, (Lit.int .u8 n).wf = true) (y0 : len0 * 1 ≤ 140737488351232) (hT_ : Tab w) :
  Calls Tryd.prog 5 #[.slice a0 len0 cap0] w fun e w' => e = .returned (.bool true) ∧ Below w.heap.size w w' := by
 obtain ⟨l0, rfl, hr0, hm0, hw0, hc0⟩ := ReadsInt.ofRowC w0
 obtain ⟨k, h⟩ := P l0 hm0 y0 hw0
 refine (laws_FnMissingKeysNone.calls k _ _ l0 true w (Kd.C_of_reads (d := (0 : Int)) (h1 := fun _ => rfl) hr0) hc0 h hT_).mono ?_
 rintro e w' ⟨rfl, hd⟩
 exact ⟨rfl, hd⟩

end Go.Proofs.YtcmhdcjdgchnfaaDoor.G
