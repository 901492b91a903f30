-- SLIM
-- Written by hyb.py, a driver of this session round the print.py of the kit. Lean checks it.
import Derived.Test.YtmfbhcooldngoaaDoorWRepsOne
import Derived.Test.YtmfbhcooldngoaaDoorG0
import Derived.Test.YtmfbhcooldngoaaDoorG3
import Derived.Test.YtmfbhcooldngoaaDoorG5
import Derived.Test.YtmfbhcooldngoaaDoorHDraw
import Derived.Test.YtmfbhcooldngoaaDoorHOut
namespace Go.Proofs.YtmfbhcooldngoaaDoor.G
open Go.RowKit Go.Proofs.YtmfbhcooldngoaaDoorW.PrintWords Go.Proofs.YtmfbhcooldngoaaDoorW.PrintLast Go.Proofs.YtmfbhcooldngoaaDoorW.PrintMore
attribute [local go_sem] max2_int min2_int max_two min_two max_three min_three max_four min_four   -- for this text's walks alone
set_option linter.unusedVariables false
set_option linter.unusedSimpArgs false

/-! ### laws_FnOutcomes: function 9 -/
mutual
def laws_FnOutcomes.j0 : Nat → List (S40) → List Int → Int → List Int → Bool → Option (Bool)
 | 0, _, _, _, _, _ => none
 | k + 1, x3, x4, x5, x6, x36 => if x36 = true then ((spec_Outcomes.f k x3 x4 x5).bind fun t493 => ((laws_equalInts.f k x6 t493).bind fun t496 => (some t496))) else (laws_FnOutcomes.l0 k x3 x4 x6 0)
def laws_FnOutcomes.l0 : Nat → List (S40) → List Int → List Int → Int → Option (Bool)
 | 0, _, _, _, _ => none
 | k + 1, x3, x4, x6, x7 => if x7 < (x3.length : Int) then (laws_FnOutcomes.l1 k x3 x4 x6 x7 true 0) else (some true)
def laws_FnOutcomes.l1 : Nat → List (S40) → List Int → List Int → Int → Bool → Int → Option (Bool)
 | 0, _, _, _, _, _, _ => none
 | k + 1, x3, x4, x6, x7, x8, x9 => if 0 ≤ x7 then (if x7 < (x3.length : Int) then (if x9 < (((rd_T40 x3 x7).f1).length : Int) then (if x8 = true then (if 0 ≤ x9 then (if 0 ≤ (rd ((rd_T40 x3 x7).f1) x9) then (if (rd ((rd_T40 x3 x7).f1) x9) < (x6.length : Int) then (laws_FnOutcomes.l1 k x3 x4 x6 x7 ((rd x6 (rd ((rd_T40 x3 x7).f1) x9)) == 0) (wrap64 (x9 + 1))) else (none)) else (none)) else (none)) else (laws_FnOutcomes.l1 k x3 x4 x6 x7 false (wrap64 (x9 + 1)))) else (if x7 < (x6.length : Int) then (if (rd x6 x7) = 0 then (if x8 = true then ((laws_isIn.f k x4 x7).bind fun t502 => (if t502 = true then (some false) else (if (rd x6 x7) = 1 then ((laws_isIn.f k x4 x7).bind fun t504 => (if t504 = true then (if (rd x6 x7) = 2 then (some false) else (laws_FnOutcomes.l0 k x3 x4 x6 (wrap64 (x7 + 1)))) else (some false))) else (if (rd x6 x7) = 2 then (some false) else (laws_FnOutcomes.l0 k x3 x4 x6 (wrap64 (x7 + 1))))))) else (some false)) else (if (rd x6 x7) = 1 then (if x8 = true then ((laws_isIn.f k x4 x7).bind fun t508 => (if t508 = true then (if (rd x6 x7) = 2 then (some false) else (laws_FnOutcomes.l0 k x3 x4 x6 (wrap64 (x7 + 1)))) else (some false))) else (some false)) else (if (rd x6 x7) = 2 then (if x8 = true then (some false) else (laws_FnOutcomes.l0 k x3 x4 x6 (wrap64 (x7 + 1)))) else (laws_FnOutcomes.l0 k x3 x4 x6 (wrap64 (x7 + 1)))))) else (none))) else (none)) else (none)
end
def laws_FnOutcomes.f (k : Nat) (l0 : List Int) : Option (Bool) := if (l0.length : Int) > 1048576 then (some true) else ((spec_DrawOutcomes.f l0).bind fun bt479 => ((impl_Outcomes.f bt479.1 bt479.2.1 bt479.2.2).bind fun t486 => ((spec_Outcomes.f k bt479.1 bt479.2.1 bt479.2.2).bind fun t489 => ((laws_equalInts.f k t486 t489).bind fun t492 => (if t492 = true then (laws_FnOutcomes.j0 k bt479.1 bt479.2.1 bt479.2.2 t486 ((t486.length : Int) != (bt479.1.length : Int))) else (laws_FnOutcomes.j0 k bt479.1 bt479.2.1 bt479.2.2 t486 true))))))
set_option maxHeartbeats 8000000 in
set_option maxRecDepth 100000 in
theorem laws_FnOutcomes.calls (k : Nat) (A0 : Option Addr) (c0 : Nat) (l0 : List Int) (r : Bool) (w : World) (hr0 : Kd.C (Kd.int .u8) w A0 l0.length l0) (hc0 : l0.length ≤ c0) (h : laws_FnOutcomes.f k l0 = some r) (hT_ : Tab w) :
  Calls Tryd.prog 9 #[.slice A0 l0.length c0] w fun e w' => e = .returned (.bool r) ∧ Below w.heap.size w w' := by
 have HT_ := Aside0.mk hT_
 clear hT_
 have HR0 := Aside0.mk hr0
 have HC0 := Aside0.mk hc0
 clear hr0 hc0
 have HB := Aside0.mk (Below.refl w.heap.size w)
 have H : (if (l0.length : Int) > 1048576 then (some true) else ((spec_DrawOutcomes.f l0).bind fun bt479 => ((impl_Outcomes.f bt479.1 bt479.2.1 bt479.2.2).bind fun t486 => ((spec_Outcomes.f k bt479.1 bt479.2.1 bt479.2.2).bind fun t489 => ((laws_equalInts.f k t486 t489).bind fun t492 => (if t492 = true then (laws_FnOutcomes.j0 k bt479.1 bt479.2.1 bt479.2.2 t486 ((t486.length : Int) != (bt479.1.length : Int))) else (laws_FnOutcomes.j0 k bt479.1 bt479.2.1 bt479.2.2 t486 true))))))) = some r := h
 clear h
 by_cases c2 : (l0.length : Int) > 1048576
 ·rw [if_pos c2] at H
  have c2b0 : decide (1048576 < (l0.length : Int)) = true := decide_eq_true c2
  have c2b1 : decide (1048576 < l0.length) = true := decide_eq_true (by omega)
  clear c2
  obtain rfl := Option.some.inj H
  go_enter Tryd.func9, Tryd.ntmps9
  go_wp2
  go_ret
  exact ⟨by first | rfl | (simp [errW_none, errW_some] <;> rfl) | (simp [*, errW_none, errW_some] <;> rfl), by repeat (first | (with_reducible first | exact HB.out | apply below_alloc | apply pw_below_drewN | apply below_drew1) | exact HB.out)⟩
 ·rw [if_neg c2] at H
  have c2b0 : decide (1048576 < (l0.length : Int)) = false := decide_eq_false c2
  have c2b1 : decide (1048576 < l0.length) = false := decide_eq_false (by omega)
  clear c2
  replace H := Option.bind_eq_some_iff.mp H
  obtain ⟨⟨t479, t482, t485⟩, A30, H⟩ := H
  replace H : ((impl_Outcomes.f t479 t482 t485).bind fun t486 => ((spec_Outcomes.f k t479 t482 t485).bind fun t489 => ((laws_equalInts.f k t486 t489).bind fun t492 => (if t492 = true then (laws_FnOutcomes.j0 k t479 t482 t485 t486 ((t486.length : Int) != (t479.length : Int))) else (laws_FnOutcomes.j0 k t479 t482 t485 t486 true))))) = some r := H
  have A3 := Aside0.mk A30
  clear A30
  replace H := Option.bind_eq_some_iff.mp H
  obtain ⟨t486, A40, H⟩ := H
  replace H : ((spec_Outcomes.f k t479 t482 t485).bind fun t489 => ((laws_equalInts.f k t486 t489).bind fun t492 => (if t492 = true then (laws_FnOutcomes.j0 k t479 t482 t485 t486 ((t486.length : Int) != (t479.length : Int))) else (laws_FnOutcomes.j0 k t479 t482 t485 t486 true)))) = some r := H
  have A4 := Aside0.mk A40
  clear A40
  have HC5 := Aside0.mk H
  clear H
  go_enter Tryd.func9, Tryd.ntmps9
  go_upto_region 5 with (first | ((with_reducible refine gate_callee (f := 21) rfl ?_); refine goesL_ (some 15) rfl rfl Tryd.func21 (by kernel_rfl) rfl #[.slice A0 l0.length c0] rfl (by (try simp only [List.map_toArray, List.map_cons, List.map_nil]); first | done | rfl | (simp only [List.length_drop, List.length_take]; rfl)) ?_; (with_reducible refine (spec_DrawOutcomes.calls _ _ l0 t479 t482 t485 _ ?side1 ?side2 A3.out).mono ?_); (case side1 => repeat (first | exact HR0.out | (with_reducible refine Kd.C_alloc ?_ _) | (with_reducible refine Kd.C_drewN ?_ _) | (with_reducible refine Kd.C_drew ?_))); (case side2 => exact HC0.out); rintro e w6 ⟨v480, v483, rfl, ho0, ho1, hb⟩; refine ⟨_, rfl, ?_⟩; have n0_ := Aside0.mk (Kd.V_lower (Kd.V_mono (ok' := fun k_ => True) ho0 (fun k_ hk_ => trivial)) (below_size (by repeat (first | (with_reducible first | exact HB.out | apply below_alloc | apply pw_below_drewN | apply below_drew1) | exact HB.out)))); have n1_ := Aside0.mk (Kd.V_lower (Kd.V_mono (ok' := fun k_ => True) ho1 (fun k_ hk_ => trivial)) (below_size (by repeat (first | (with_reducible first | exact HB.out | apply below_alloc | apply pw_below_drewN | apply below_drew1) | exact HB.out)))); have n2_ := Aside0.mk (below_step (by repeat (first | (with_reducible first | exact HB.out | apply below_alloc | apply pw_below_drewN | apply below_drew1) | exact HB.out)) hb); clear HB; have HO481 := n0_; have HO484 := n1_; have HB := n2_; clear n0_ n1_ n2_; (try clear hb); (try clear hb2); (try clear hk); (try clear hi); (try clear ho0); (try clear ho1); obtain ⟨Ao7, co7, eo7⟩ := Kd.V_slice HO481.out; subst eo7; obtain ⟨Ao8, co8, eo8⟩ := Kd.V_slice HO484.out; subst eo8) | ((with_reducible refine gate_callee (f := 12) rfl ?_); refine goesL_ (some 22) rfl rfl Tryd.func12 (by kernel_rfl) rfl #[.slice Ao7 t479.length co7, .slice Ao8 t482.length co8, .int .i64 t485] rfl (by (try simp only [List.map_toArray, List.map_cons, List.map_nil]); first | done | rfl | (simp only [List.length_drop, List.length_take]; rfl)) ?_; (with_reducible refine (impl_Outcomes.calls _ _ t479 _ _ t482 t485 t486 _ ?side1 ?side2 ?side3 ?side4 A4.out ?sideT).mono ?_); (case sideT => first | exact HT_.out.below (by repeat (first | (with_reducible first | exact HB.out | apply below_alloc | apply pw_below_drewN | apply below_drew1) | exact HB.out)) HT_.out.pos | exact HT_.out); (case side1 => repeat (first | exact (Kd.V_reads' HO481.out).2.2 | (with_reducible refine Kd.C_alloc ?_ _) | (with_reducible refine Kd.C_drewN ?_ _) | (with_reducible refine Kd.C_drew ?_))); (case side2 => exact (Kd.V_reads' HO481.out).2.1); (case side3 => repeat (first | exact (Kd.V_reads' HO484.out).2.2 | (with_reducible refine Kd.C_alloc ?_ _) | (with_reducible refine Kd.C_drewN ?_ _) | (with_reducible refine Kd.C_drew ?_))); (case side4 => exact (Kd.V_reads' HO484.out).2.1); rintro e w9 ⟨v487, rfl, ho0, hb⟩; refine ⟨_, rfl, ?_⟩; have n0_ := Aside0.mk (Kd.V_elder' (by (with_reducible repeat (first | apply Kd.V_alloc | apply Kd.V_drewN | apply Kd.V_drew)); exact HO481.out) (Kd.R_base ho0) hb); have n1_ := Aside0.mk (Kd.V_elder' (by (with_reducible repeat (first | apply Kd.V_alloc | apply Kd.V_drewN | apply Kd.V_drew)); exact HO484.out) (Kd.R_base ho0) hb); have n2_ := Aside0.mk (Kd.R_lower ho0 (below_size (by repeat (first | (with_reducible first | exact HB.out | apply below_alloc | apply pw_below_drewN | apply below_drew1) | exact HB.out)))); have n3_ := Aside0.mk (below_step (by repeat (first | (with_reducible first | exact HB.out | apply below_alloc | apply pw_below_drewN | apply below_drew1) | exact HB.out)) hb); clear HO481; clear HO484; clear HB; have HO481 := n0_; have HO484 := n1_; have HO488 := n2_; have HB := n3_; clear n0_ n1_ n2_ n3_; (try clear hb); (try clear hb2); (try clear hk); (try clear hi); (try clear ho0)))
  (try simp only [Act.put, List.setIfInBounds_toArray, List.set_cons_zero, List.set_cons_succ])
  go_cut [36] (fun v36 wc => ∃ (kq : Nat) (x36_4 : Bool), v36 = .bool x36_4 ∧ Aside0 (laws_FnOutcomes.j0 kq t479 t482 t485 t486 x36_4 = some r) ∧ Aside0 (kq ≤ k) ∧ Aside0 (Kd.V k40 40 wc w.heap.size (fun k_ => some k_ ≠ (v487 : Value).ownBlock) (.slice Ao7 t479.length co7) t479) ∧ Aside0 (Kd.V (Kd.int .i64) 3 wc w.heap.size (fun k_ => some k_ ≠ (v487 : Value).ownBlock) (.slice Ao8 t482.length co8) t482) ∧ Aside0 (Kd.R (Kd.int .i64) 3 wc w.heap.size (fun _ => True) v487 t486) ∧ Aside0 (Below w.heap.size w wc))
  case first =>
   have H := HC5.out
   clear HC5
   replace H := Option.bind_eq_some_iff.mp H
   obtain ⟨t489, A100, H⟩ := H
   replace H : ((laws_equalInts.f k t486 t489).bind fun t492 => (if t492 = true then (laws_FnOutcomes.j0 k t479 t482 t485 t486 ((t486.length : Int) != (t479.length : Int))) else (laws_FnOutcomes.j0 k t479 t482 t485 t486 true))) = some r := H
   have A10 := Aside0.mk A100
   clear A100
   replace H := Option.bind_eq_some_iff.mp H
   obtain ⟨t492, A110, H⟩ := H
   replace H : (if t492 = true then (laws_FnOutcomes.j0 k t479 t482 t485 t486 ((t486.length : Int) != (t479.length : Int))) else (laws_FnOutcomes.j0 k t479 t482 t485 t486 true)) = some r := H
   have A11 := Aside0.mk A110
   clear A110
   by_cases c12 : t492 = true
   ·subst c12
    have H1 : (laws_FnOutcomes.j0 k t479 t482 t485 t486 ((t486.length : Int) != (t479.length : Int))) = some r := by rw [if_pos rfl] at H; exact H
    clear H
    have H := H1
    clear H1
    have H' := Aside0.mk H
    clear H
    go_wp2_with (first | ((with_reducible refine gate_callee (f := 23) rfl ?_); refine goesL_ (some 27) rfl rfl Tryd.func23 (by kernel_rfl) rfl #[.slice Ao7 t479.length co7, .slice Ao8 t482.length co8, .int .i64 t485] rfl (by (try simp only [List.map_toArray, List.map_cons, List.map_nil]); first | done | rfl | (simp only [List.length_drop, List.length_take]; rfl)) ?_; (with_reducible refine (spec_Outcomes.calls k _ _ t479 _ _ t482 t485 t489 _ ?side1 ?side2 ?side3 ?side4 A10.out).mono ?_); (case side1 => repeat (first | exact (Kd.V_reads' HO481.out).2.2 | (with_reducible refine Kd.C_alloc ?_ _) | (with_reducible refine Kd.C_drewN ?_ _) | (with_reducible refine Kd.C_drew ?_))); (case side2 => exact (Kd.V_reads' HO481.out).2.1); (case side3 => repeat (first | exact (Kd.V_reads' HO484.out).2.2 | (with_reducible refine Kd.C_alloc ?_ _) | (with_reducible refine Kd.C_drewN ?_ _) | (with_reducible refine Kd.C_drew ?_))); (case side4 => exact (Kd.V_reads' HO484.out).2.1); rintro e w13 ⟨v490, rfl, ho0, hb⟩; refine ⟨_, rfl, ?_⟩; have n0_ := Aside0.mk (Kd.V_elder' (by (with_reducible repeat (first | apply Kd.V_alloc | apply Kd.V_drewN | apply Kd.V_drew)); exact HO481.out) (Kd.R_base ho0) hb); have n1_ := Aside0.mk (Kd.V_elder' (by (with_reducible repeat (first | apply Kd.V_alloc | apply Kd.V_drewN | apply Kd.V_drew)); exact HO484.out) (Kd.R_base ho0) hb); have n2_ := Aside0.mk (Kd.R_elder' (by (with_reducible repeat (first | apply Kd.R_alloc | apply Kd.R_drewN | apply Kd.R_drew)); exact HO488.out) (Kd.R_base ho0) hb); have n3_ := Aside0.mk (Kd.R_lower (Kd.R_new' ho0 (Kd.R_lt (by (with_reducible repeat (first | apply Kd.R_alloc | apply Kd.R_drewN | apply Kd.R_drew)); exact HO488.out))) (below_size (by repeat (first | (with_reducible first | exact HB.out | apply below_alloc | apply pw_below_drewN | apply below_drew1) | exact HB.out)))); have n4_ := Aside0.mk (below_step (by repeat (first | (with_reducible first | exact HB.out | apply below_alloc | apply pw_below_drewN | apply below_drew1) | exact HB.out)) hb); clear HO481; clear HO484; clear HO488; clear HB; have HO481 := n0_; have HO484 := n1_; have HO488 := n2_; have HO491 := n3_; have HB := n4_; clear n0_ n1_ n2_ n3_ n4_; (try clear hb); (try clear hb2); (try clear hk); (try clear hi); (try clear ho0); obtain ⟨Ao14, co14, eo14⟩ := Kd.R_slice HO488.out; subst eo14; obtain ⟨Ao15, co15, eo15⟩ := Kd.R_slice HO491.out; subst eo15) | ((with_reducible refine gate_callee (f := 22) rfl ?_); refine goesL_ (some 28) rfl rfl Tryd.func22 (by kernel_rfl) rfl #[.slice Ao14 t486.length co14, .slice Ao15 t489.length co15] rfl (by (try simp only [List.map_toArray, List.map_cons, List.map_nil]); first | done | rfl | (simp only [List.length_drop, List.length_take]; rfl)) ?_; (with_reducible refine (laws_equalInts.calls k _ _ t486 _ _ t489 true _ ?side1 ?side2 ?side3 ?side4 A11.out).mono ?_); (case side1 => repeat (first | exact (Kd.R_reads' HO488.out).2.2 | (with_reducible refine Kd.C_alloc ?_ _) | (with_reducible refine Kd.C_drewN ?_ _) | (with_reducible refine Kd.C_drew ?_))); (case side2 => exact (Kd.R_reads' HO488.out).2.1); (case side3 => repeat (first | exact (Kd.R_reads' HO491.out).2.2 | (with_reducible refine Kd.C_alloc ?_ _) | (with_reducible refine Kd.C_drewN ?_ _) | (with_reducible refine Kd.C_drew ?_))); (case side4 => exact (Kd.R_reads' HO491.out).2.1); rintro e w' ⟨rfl, ⟨nd, rfl⟩⟩; refine ⟨_, rfl, ?_⟩))
    go_meet
    case rel => exact ⟨_, (((t486.length : Int) != (t479.length : Int))), (by first | rfl | (simp; done) | (simp [*]; done)), H', ⟨by first | omega | exact Nat.le_refl _⟩, ⟨by (with_reducible repeat (first | apply Kd.V_alloc | apply Kd.V_drewN | apply Kd.V_drew)); exact Kd.V_mono HO481.out (fun _ hk => hk.1.2)⟩, ⟨by (with_reducible repeat (first | apply Kd.V_alloc | apply Kd.V_drewN | apply Kd.V_drew)); exact Kd.V_mono HO484.out (fun _ hk => hk.1.2)⟩, ⟨by (with_reducible repeat (first | apply Kd.R_alloc | apply Kd.R_drewN | apply Kd.R_drew)); exact Kd.R_mono HO488.out (fun _ hk => trivial)⟩, ⟨by repeat (first | (with_reducible first | exact HB.out | apply below_alloc | apply pw_below_drewN | apply below_drew1) | exact HB.out)⟩⟩
   ·replace c12 := Bool.eq_false_iff.mpr c12
    subst c12
    have H1 : (laws_FnOutcomes.j0 k t479 t482 t485 t486 true) = some r := by rw [if_neg (show ¬ (false = true) by decide)] at H; exact H
    clear H
    have H := H1
    clear H1
    have H' := Aside0.mk H
    clear H
    go_wp2_with (first | ((with_reducible refine gate_callee (f := 23) rfl ?_); refine goesL_ (some 27) rfl rfl Tryd.func23 (by kernel_rfl) rfl #[.slice Ao7 t479.length co7, .slice Ao8 t482.length co8, .int .i64 t485] rfl (by (try simp only [List.map_toArray, List.map_cons, List.map_nil]); first | done | rfl | (simp only [List.length_drop, List.length_take]; rfl)) ?_; (with_reducible refine (spec_Outcomes.calls k _ _ t479 _ _ t482 t485 t489 _ ?side1 ?side2 ?side3 ?side4 A10.out).mono ?_); (case side1 => repeat (first | exact (Kd.V_reads' HO481.out).2.2 | (with_reducible refine Kd.C_alloc ?_ _) | (with_reducible refine Kd.C_drewN ?_ _) | (with_reducible refine Kd.C_drew ?_))); (case side2 => exact (Kd.V_reads' HO481.out).2.1); (case side3 => repeat (first | exact (Kd.V_reads' HO484.out).2.2 | (with_reducible refine Kd.C_alloc ?_ _) | (with_reducible refine Kd.C_drewN ?_ _) | (with_reducible refine Kd.C_drew ?_))); (case side4 => exact (Kd.V_reads' HO484.out).2.1); rintro e w16 ⟨v490, rfl, ho0, hb⟩; refine ⟨_, rfl, ?_⟩; have n0_ := Aside0.mk (Kd.V_elder' (by (with_reducible repeat (first | apply Kd.V_alloc | apply Kd.V_drewN | apply Kd.V_drew)); exact HO481.out) (Kd.R_base ho0) hb); have n1_ := Aside0.mk (Kd.V_elder' (by (with_reducible repeat (first | apply Kd.V_alloc | apply Kd.V_drewN | apply Kd.V_drew)); exact HO484.out) (Kd.R_base ho0) hb); have n2_ := Aside0.mk (Kd.R_elder' (by (with_reducible repeat (first | apply Kd.R_alloc | apply Kd.R_drewN | apply Kd.R_drew)); exact HO488.out) (Kd.R_base ho0) hb); have n3_ := Aside0.mk (Kd.R_lower (Kd.R_new' ho0 (Kd.R_lt (by (with_reducible repeat (first | apply Kd.R_alloc | apply Kd.R_drewN | apply Kd.R_drew)); exact HO488.out))) (below_size (by repeat (first | (with_reducible first | exact HB.out | apply below_alloc | apply pw_below_drewN | apply below_drew1) | exact HB.out)))); have n4_ := Aside0.mk (below_step (by repeat (first | (with_reducible first | exact HB.out | apply below_alloc | apply pw_below_drewN | apply below_drew1) | exact HB.out)) hb); clear HO481; clear HO484; clear HO488; clear HB; have HO481 := n0_; have HO484 := n1_; have HO488 := n2_; have HO491 := n3_; have HB := n4_; clear n0_ n1_ n2_ n3_ n4_; (try clear hb); (try clear hb2); (try clear hk); (try clear hi); (try clear ho0); obtain ⟨Ao17, co17, eo17⟩ := Kd.R_slice HO488.out; subst eo17; obtain ⟨Ao18, co18, eo18⟩ := Kd.R_slice HO491.out; subst eo18) | ((with_reducible refine gate_callee (f := 22) rfl ?_); refine goesL_ (some 28) rfl rfl Tryd.func22 (by kernel_rfl) rfl #[.slice Ao17 t486.length co17, .slice Ao18 t489.length co18] rfl (by (try simp only [List.map_toArray, List.map_cons, List.map_nil]); first | done | rfl | (simp only [List.length_drop, List.length_take]; rfl)) ?_; (with_reducible refine (laws_equalInts.calls k _ _ t486 _ _ t489 false _ ?side1 ?side2 ?side3 ?side4 A11.out).mono ?_); (case side1 => repeat (first | exact (Kd.R_reads' HO488.out).2.2 | (with_reducible refine Kd.C_alloc ?_ _) | (with_reducible refine Kd.C_drewN ?_ _) | (with_reducible refine Kd.C_drew ?_))); (case side2 => exact (Kd.R_reads' HO488.out).2.1); (case side3 => repeat (first | exact (Kd.R_reads' HO491.out).2.2 | (with_reducible refine Kd.C_alloc ?_ _) | (with_reducible refine Kd.C_drewN ?_ _) | (with_reducible refine Kd.C_drew ?_))); (case side4 => exact (Kd.R_reads' HO491.out).2.1); rintro e w' ⟨rfl, ⟨nd, rfl⟩⟩; refine ⟨_, rfl, ?_⟩))
    go_meet
    case rel => exact ⟨_, (true), (by first | rfl | (simp; done) | (simp [*]; done)), H', ⟨by first | omega | exact Nat.le_refl _⟩, ⟨by (with_reducible repeat (first | apply Kd.V_alloc | apply Kd.V_drewN | apply Kd.V_drew)); exact Kd.V_mono HO481.out (fun _ hk => hk.1.2)⟩, ⟨by (with_reducible repeat (first | apply Kd.V_alloc | apply Kd.V_drewN | apply Kd.V_drew)); exact Kd.V_mono HO484.out (fun _ hk => hk.1.2)⟩, ⟨by (with_reducible repeat (first | apply Kd.R_alloc | apply Kd.R_drewN | apply Kd.R_drew)); exact Kd.R_mono HO488.out (fun _ hk => trivial)⟩, ⟨by repeat (first | (with_reducible first | exact HB.out | apply below_alloc | apply pw_below_drewN | apply below_drew1) | exact HB.out)⟩⟩
  case rest =>
   clear HC5
   try clear c1
   try clear c2
   try clear c2b0
   try clear c2b1
   try clear p2
   try clear c9
   try clear c12
   obtain ⟨kq, x36_4, rfl, HA, HJ4, HO_3, HO_4, HO_6, HB⟩ := hcut
   cases kq with
   | zero => exact absurd HA.out (by simp [laws_FnOutcomes.j0])
   | succ kj4 =>
    have H := HA.out
    clear HA
    simp only [laws_FnOutcomes.j0] at H
    by_cases c19 : x36_4 = true
    ·subst c19
     have H1 : ((spec_Outcomes.f kj4 t479 t482 t485).bind fun t493 => ((laws_equalInts.f kj4 t486 t493).bind fun t496 => (some t496))) = some r := by rw [if_pos rfl] at H; exact H
     clear H
     have H := H1
     clear H1
     replace H := Option.bind_eq_some_iff.mp H
     obtain ⟨t493, A200, H⟩ := H
     replace H : ((laws_equalInts.f kj4 t486 t493).bind fun t496 => (some t496)) = some r := H
     have A20 := Aside0.mk A200
     clear A200
     replace H := Option.bind_eq_some_iff.mp H
     obtain ⟨t496, A210, H⟩ := H
     replace H : (some t496) = some r := H
     have A21 := Aside0.mk A210
     clear A210
     obtain rfl := Option.some.inj H
     go_wp2_with (first | ((with_reducible refine gate_callee (f := 23) rfl ?_); refine goesL_ (some 41) rfl rfl Tryd.func23 (by kernel_rfl) rfl #[.slice Ao7 t479.length co7, .slice Ao8 t482.length co8, .int .i64 t485] rfl (by (try simp only [List.map_toArray, List.map_cons, List.map_nil]); first | done | rfl | (simp only [List.length_drop, List.length_take]; rfl)) ?_; (with_reducible refine (spec_Outcomes.calls kj4 _ _ t479 _ _ t482 t485 t493 _ ?side1 ?side2 ?side3 ?side4 A20.out).mono ?_); (case side1 => repeat (first | exact (Kd.V_reads' HO_3.out).2.2 | (with_reducible refine Kd.C_alloc ?_ _) | (with_reducible refine Kd.C_drewN ?_ _) | (with_reducible refine Kd.C_drew ?_))); (case side2 => exact (Kd.V_reads' HO_3.out).2.1); (case side3 => repeat (first | exact (Kd.V_reads' HO_4.out).2.2 | (with_reducible refine Kd.C_alloc ?_ _) | (with_reducible refine Kd.C_drewN ?_ _) | (with_reducible refine Kd.C_drew ?_))); (case side4 => exact (Kd.V_reads' HO_4.out).2.1); rintro e w22 ⟨v494, rfl, ho0, hb⟩; refine ⟨_, rfl, ?_⟩; have n0_ := Aside0.mk (Kd.V_elder' (by (with_reducible repeat (first | apply Kd.V_alloc | apply Kd.V_drewN | apply Kd.V_drew)); exact HO_3.out) (Kd.R_base ho0) hb); have n1_ := Aside0.mk (Kd.V_elder' (by (with_reducible repeat (first | apply Kd.V_alloc | apply Kd.V_drewN | apply Kd.V_drew)); exact HO_4.out) (Kd.R_base ho0) hb); have n2_ := Aside0.mk (Kd.R_elder' (by (with_reducible repeat (first | apply Kd.R_alloc | apply Kd.R_drewN | apply Kd.R_drew)); exact HO_6.out) (Kd.R_base ho0) hb); have n3_ := Aside0.mk (Kd.R_lower (Kd.R_new' ho0 (Kd.R_lt (by (with_reducible repeat (first | apply Kd.R_alloc | apply Kd.R_drewN | apply Kd.R_drew)); exact HO_6.out))) (below_size (by repeat (first | (with_reducible first | exact HB.out | apply below_alloc | apply pw_below_drewN | apply below_drew1) | exact HB.out)))); have n4_ := Aside0.mk (below_step (by repeat (first | (with_reducible first | exact HB.out | apply below_alloc | apply pw_below_drewN | apply below_drew1) | exact HB.out)) hb); clear HO_3; clear HO_4; clear HO_6; clear HB; have HO_3 := n0_; have HO_4 := n1_; have HO_6 := n2_; have HO495 := n3_; have HB := n4_; clear n0_ n1_ n2_ n3_ n4_; (try clear hb); (try clear hb2); (try clear hk); (try clear hi); (try clear ho0); obtain ⟨Ao23, co23, eo23⟩ := Kd.R_slice HO_6.out; subst eo23; obtain ⟨Ao24, co24, eo24⟩ := Kd.R_slice HO495.out; subst eo24) | ((with_reducible refine gate_callee (f := 22) rfl ?_); refine goesL_ (some 42) rfl rfl Tryd.func22 (by kernel_rfl) rfl #[.slice Ao23 t486.length co23, .slice Ao24 t493.length co24] rfl (by (try simp only [List.map_toArray, List.map_cons, List.map_nil]); first | done | rfl | (simp only [List.length_drop, List.length_take]; rfl)) ?_; (with_reducible refine (laws_equalInts.calls kj4 _ _ t486 _ _ t493 t496 _ ?side1 ?side2 ?side3 ?side4 A21.out).mono ?_); (case side1 => repeat (first | exact (Kd.R_reads' HO_6.out).2.2 | (with_reducible refine Kd.C_alloc ?_ _) | (with_reducible refine Kd.C_drewN ?_ _) | (with_reducible refine Kd.C_drew ?_))); (case side2 => exact (Kd.R_reads' HO_6.out).2.1); (case side3 => repeat (first | exact (Kd.R_reads' HO495.out).2.2 | (with_reducible refine Kd.C_alloc ?_ _) | (with_reducible refine Kd.C_drewN ?_ _) | (with_reducible refine Kd.C_drew ?_))); (case side4 => exact (Kd.R_reads' HO495.out).2.1); rintro e w' ⟨rfl, ⟨nd, rfl⟩⟩; refine ⟨_, rfl, ?_⟩))
     go_ret
     exact ⟨by first | rfl | (simp [errW_none, errW_some] <;> rfl) | (simp [*, errW_none, errW_some] <;> rfl), by repeat (first | (with_reducible first | exact HB.out | apply below_alloc | apply pw_below_drewN | apply below_drew1) | exact HB.out)⟩
    ·replace c19 := Bool.eq_false_iff.mpr c19
     subst c19
     have H1 : (laws_FnOutcomes.l0 kj4 t479 t482 t486 0) = some r := by rw [if_neg (show ¬ (false = true) by decide)] at H; exact H
     clear H
     have H := H1
     clear H1
     have H' := Aside0.mk H
     clear H
     go_wp2
     go_loopg [7] kj4 (fun kq v7 w' => ∃ (x7_2 : Int), v7 = .int .i64 x7_2 ∧ Aside0 (laws_FnOutcomes.l0 kq t479 t482 t486 x7_2 = some r) ∧ Aside0 (kq ≤ kj4) ∧ Aside0 (Kd.V k40 40 w' w.heap.size (fun k_ => some k_ ≠ (v487 : Value).ownBlock) (.slice Ao7 t479.length co7) t479) ∧ Aside0 (Kd.V (Kd.int .i64) 3 w' w.heap.size (fun k_ => some k_ ≠ (v487 : Value).ownBlock) (.slice Ao8 t482.length co8) t482) ∧ Aside0 (Kd.R (Kd.int .i64) 3 w' w.heap.size (fun _ => True) v487 t486) ∧ Aside0 (Below w.heap.size w w'))
     case atStart => exact ⟨(0), (by first | rfl | (simp; done) | (simp [*]; done)), H', ⟨Nat.le_refl _⟩, ⟨by (with_reducible repeat (first | apply Kd.V_alloc | apply Kd.V_drewN | apply Kd.V_drew)); exact HO_3.out⟩, ⟨by (with_reducible repeat (first | apply Kd.V_alloc | apply Kd.V_drewN | apply Kd.V_drew)); exact HO_4.out⟩, ⟨by (with_reducible repeat (first | apply Kd.R_alloc | apply Kd.R_drewN | apply Kd.R_drew)); exact HO_6.out⟩, ⟨by repeat (first | (with_reducible first | exact HB.out | apply below_alloc | apply pw_below_drewN | apply below_drew1) | exact HB.out)⟩⟩
     case round =>
      clear H'
      try clear c1
      try clear c2
      try clear c2b0
      try clear c2b1
      try clear p2
      try clear c9
      try clear c12
      try clear c19
      try clear c21
      try clear c22
      try clear c23
      try clear p2
      obtain ⟨x7_2, rfl, HA, HK2, HO_3, HO_4, HO_6, HB⟩ := hrel
      cases gk with
      | zero => exact absurd HA.out (by simp [laws_FnOutcomes.l0])
      | succ k2 =>
       have H := HA.out
       clear HA
       simp only [laws_FnOutcomes.l0] at H
       by_cases c25 : x7_2 < (t479.length : Int)
       ·rw [if_pos c25] at H
        have c25b0 : decide (x7_2 < (t479.length : Int)) = true := decide_eq_true c25
        clear c25
        have H' := Aside0.mk H
        clear H
        go_wp2
        go_loopg [8, 9] k2 (fun kq v8 v9 w' => ∃ (x8_3 : Bool) (x9_3 : Int), v8 = .bool x8_3 ∧ v9 = .int .i64 x9_3 ∧ Aside0 (laws_FnOutcomes.l1 kq t479 t482 t486 x7_2 x8_3 x9_3 = some r) ∧ Aside0 (kq ≤ k2) ∧ Aside0 (Kd.V k40 40 w' w.heap.size (fun k_ => some k_ ≠ (v487 : Value).ownBlock) (.slice Ao7 t479.length co7) t479) ∧ Aside0 (Kd.V (Kd.int .i64) 3 w' w.heap.size (fun k_ => some k_ ≠ (v487 : Value).ownBlock) (.slice Ao8 t482.length co8) t482) ∧ Aside0 (Kd.R (Kd.int .i64) 3 w' w.heap.size (fun _ => True) v487 t486) ∧ Aside0 (Below w.heap.size w w'))
        case atStart => exact ⟨(true), (0), (by first | rfl | (simp; done) | (simp [*]; done)), (by first | rfl | (simp; done) | (simp [*]; done)), H', ⟨Nat.le_refl _⟩, ⟨by (with_reducible repeat (first | apply Kd.V_alloc | apply Kd.V_drewN | apply Kd.V_drew)); exact HO_3.out⟩, ⟨by (with_reducible repeat (first | apply Kd.V_alloc | apply Kd.V_drewN | apply Kd.V_drew)); exact HO_4.out⟩, ⟨by (with_reducible repeat (first | apply Kd.R_alloc | apply Kd.R_drewN | apply Kd.R_drew)); exact HO_6.out⟩, ⟨by repeat (first | (with_reducible first | exact HB.out | apply below_alloc | apply pw_below_drewN | apply below_drew1) | exact HB.out)⟩⟩
        case round =>
         clear H'
         try clear c1
         try clear c2
         try clear c2b0
         try clear c2b1
         try clear p2
         try clear c9
         try clear c12
         try clear c19
         try clear c21
         try clear c22
         try clear c23
         try clear c25
         try clear c25b0
         try clear p2
         obtain ⟨x8_3, x9_3, rfl, rfl, HA, HK3, HO_3, HO_4, HO_6, HB⟩ := hrel
         cases gk with
         | zero => exact absurd HA.out (by simp [laws_FnOutcomes.l1])
         | succ k3 =>
          have H := HA.out
          clear HA
          simp only [laws_FnOutcomes.l1] at H
          by_cases c26 : 0 ≤ x7_2
          ·rw [if_pos c26] at H
           have c26b0 : decide (0 ≤ x7_2) = true := decide_eq_true c26
           clear c26
           by_cases c27 : x7_2 < (t479.length : Int)
           ·rw [if_pos c27] at H
            have c27b0 : decide (x7_2 < (t479.length : Int)) = true := decide_eq_true c27
            clear c27
            by_cases c28 : x9_3 < (((rd_T40 t479 x7_2).f1).length : Int)
            ·rw [if_pos c28] at H
             have c28b0 : decide (x9_3 < (((rd_T40 t479 x7_2).f1).length : Int)) = true := decide_eq_true c28
             clear c28
             by_cases c29 : x8_3 = true
             ·subst c29
              have H1 : (if 0 ≤ x9_3 then (if 0 ≤ (rd ((rd_T40 t479 x7_2).f1) x9_3) then (if (rd ((rd_T40 t479 x7_2).f1) x9_3) < (t486.length : Int) then (laws_FnOutcomes.l1 k3 t479 t482 t486 x7_2 ((rd t486 (rd ((rd_T40 t479 x7_2).f1) x9_3)) == 0) (wrap64 (x9_3 + 1))) else (none)) else (none)) else (none)) = some r := by rw [if_pos rfl] at H; exact H
              clear H
              have H := H1
              clear H1
              by_cases c30 : 0 ≤ x9_3
              ·rw [if_pos c30] at H
               have c30b0 : decide (0 ≤ x9_3) = true := decide_eq_true c30
               clear c30
               by_cases c31 : 0 ≤ (rd ((rd_T40 t479 x7_2).f1) x9_3)
               ·rw [if_pos c31] at H
                have c31b0 : decide (0 ≤ (rd ((rd_T40 t479 x7_2).f1) x9_3)) = true := decide_eq_true c31
                clear c31
                by_cases c32 : (rd ((rd_T40 t479 x7_2).f1) x9_3) < (t486.length : Int)
                ·rw [if_pos c32] at H
                 have c32b0 : decide ((rd ((rd_T40 t479 x7_2).f1) x9_3) < (t486.length : Int)) = true := decide_eq_true c32
                 clear c32
                 have H' := Aside0.mk H
                 clear H
                 have p497 : 0 ≤ (x7_2 : Int) := of_decide_eq_true (by first | (with_reducible assumption) | assumption)
                 have q497 : x7_2 < (t479.length : Int) := of_decide_eq_true (by first | (with_reducible assumption) | assumption)
                 obtain ⟨ad497, A497_1, c497_1, e497, hx497_0, hx497_1, hx497_2, hx497_3, hl497_1, hi497_1⟩ := at_T40 (Kd.V_reads' HO_3.out).2.2 x7_2 p497 q497
                 cases e497
                 obtain ⟨ce497, hce497, hMe497, hcc497⟩ := Kd.V_get HO_3.out z40 x7_2 p497 (by first | exact q497 | exact of_decide_eq_true (by first | (with_reducible assumption) | assumption) | (have e_ := (Kd.V_reads' HO_3.out).1; omega))
                 obtain ⟨ua497_1, uc497_1, rfl, ul497_1, ge497_1⟩ := k40_openF hMe497
                 have hv497_1 := hcc497 1 _ rfl
                 rw [add_field _ _ 1 (by omega)] at hv497_1
                 replace hv497_1 := Option.some.inj (hv497_1.symm.trans hx497_1)
                 injection hv497_1 with hva_ hvn_ hvc_
                 rw [hva_] at ge497_1
                 rw [hvc_] at ul497_1
                 have HL497_1 := Aside0.mk (show Kd.V (Kd.int .i64) 3 _ w.heap.size _ _ ((rd_T40 t479 x7_2).f1) from Kd.V_mk ul497_1 ge497_1)
                 clear hva_ hvn_ hvc_ ge497_1 ul497_1
                 clear hcc497 hce497
                 have HR497_1 := Aside0.mk hi497_1
                 have HC497_1 := Aside0.mk hl497_1
                 clear hi497_1 hl497_1
                 replace p497 := eq_true p497
                 replace q497 := eq_true q497
                 have p498 : 0 ≤ (x7_2 : Int) := of_decide_eq_true (by first | (with_reducible assumption) | assumption)
                 have q498 : x7_2 < (t479.length : Int) := of_decide_eq_true (by first | (with_reducible assumption) | assumption)
                 obtain ⟨ad498, A498_1, c498_1, e498, hx498_0, hx498_1, hx498_2, hx498_3, hl498_1, hi498_1⟩ := at_T40 (Kd.V_reads' HO_3.out).2.2 x7_2 p498 q498
                 obtain rfl : ad497 = ad498 := (by injection e498)
                 obtain ⟨ce498, hce498, hMe498, hcc498⟩ := Kd.V_get HO_3.out z40 x7_2 p498 (by first | exact q498 | exact of_decide_eq_true (by first | (with_reducible assumption) | assumption) | (have e_ := (Kd.V_reads' HO_3.out).1; omega))
                 obtain ⟨ua498_1, uc498_1, rfl, ul498_1, ge498_1⟩ := k40_openF hMe498
                 have hv498_1 := hcc498 1 _ rfl
                 rw [add_field _ _ 1 (by omega)] at hv498_1
                 replace hv498_1 := Option.some.inj (hv498_1.symm.trans hx498_1)
                 injection hv498_1 with hva_ hvn_ hvc_
                 rw [hva_] at ge498_1
                 rw [hvc_] at ul498_1
                 have HL498_1 := Aside0.mk (show Kd.V (Kd.int .i64) 3 _ w.heap.size _ _ ((rd_T40 t479 x7_2).f1) from Kd.V_mk ul498_1 ge498_1)
                 clear hva_ hvn_ hvc_ ge498_1 ul498_1
                 clear hcc498 hce498
                 have HR498_1 := Aside0.mk hi498_1
                 have HC498_1 := Aside0.mk hl498_1
                 clear hi498_1 hl498_1
                 replace p498 := eq_true p498
                 replace q498 := eq_true q498
                 have ea_ := Option.some.inj (hx497_1.symm.trans hx498_1)
                 injection ea_ with ea_ en_ ec_
                 subst ea_
                 subst ec_
                 clear en_
                 have p499 : 0 ≤ (x9_3 : Int) := of_decide_eq_true (by first | (with_reducible assumption) | assumption)
                 have q499 : x9_3 < (((rd_T40 t479 x7_2).f1).length : Int) := of_decide_eq_true (by first | (with_reducible assumption) | assumption)
                 obtain ⟨ad499, e499, hx499_0⟩ := Kd.at_int (by repeat (first | (with_reducible exact HR498_1.out) | (with_reducible refine Kd.C_alloc ?_ _) | (with_reducible refine Kd.C_drewN ?_ _) | (with_reducible refine Kd.C_drew ?_) | exact HR498_1.out)) x9_3 p499 q499
                 cases e499
                 replace p499 := eq_true p499
                 replace q499 := eq_true q499
                 obtain ⟨Ao33, co33, eo33⟩ := Kd.R_slice HO_6.out
                 subst eo33
                 have p500 : 0 ≤ ((rd ((rd_T40 t479 x7_2).f1) x9_3) : Int) := of_decide_eq_true (by first | (with_reducible assumption) | assumption)
                 have q500 : (rd ((rd_T40 t479 x7_2).f1) x9_3) < (t486.length : Int) := of_decide_eq_true (by first | (with_reducible assumption) | assumption)
                 obtain ⟨ad500, e500, hx500_0⟩ := Kd.at_int (Kd.R_reads' HO_6.out).2.2 (rd ((rd_T40 t479 x7_2).f1) x9_3) p500 q500
                 cases e500
                 replace p500 := eq_true p500
                 replace q500 := eq_true q500
                 go_wp2
                 go_roundg k3
                 case measure => have := HJ4.out; have := HK2.out; have := HK3.out; omega
                 case rel => exact ⟨(((rd t486 (rd ((rd_T40 t479 x7_2).f1) x9_3)) == 0)), (wrap64 (x9_3 + 1)), (by first | rfl | (simp; done) | (simp [*]; done)), (by first | rfl | (simp; done) | (simp [*]; done)), H', ⟨by have := HJ4.out; have := HK2.out; have := HK3.out; omega⟩, ⟨by (with_reducible repeat (first | apply Kd.V_alloc | apply Kd.V_drewN | apply Kd.V_drew)); exact HO_3.out⟩, ⟨by (with_reducible repeat (first | apply Kd.V_alloc | apply Kd.V_drewN | apply Kd.V_drew)); exact HO_4.out⟩, ⟨by (with_reducible repeat (first | apply Kd.R_alloc | apply Kd.R_drewN | apply Kd.R_drew)); exact HO_6.out⟩, ⟨by repeat (first | (with_reducible first | exact HB.out | apply below_alloc | apply pw_below_drewN | apply below_drew1) | exact HB.out)⟩⟩
                ·rw [if_neg c32] at H
                 exact absurd H (by simp)
               ·rw [if_neg c31] at H
                exact absurd H (by simp)
              ·rw [if_neg c30] at H
               exact absurd H (by simp)
             ·replace c29 := Bool.eq_false_iff.mpr c29
              subst c29
              have H1 : (laws_FnOutcomes.l1 k3 t479 t482 t486 x7_2 false (wrap64 (x9_3 + 1))) = some r := by rw [if_neg (show ¬ (false = true) by decide)] at H; exact H
              clear H
              have H := H1
              clear H1
              have H' := Aside0.mk H
              clear H
              have p497 : 0 ≤ (x7_2 : Int) := of_decide_eq_true (by first | (with_reducible assumption) | assumption)
              have q497 : x7_2 < (t479.length : Int) := of_decide_eq_true (by first | (with_reducible assumption) | assumption)
              obtain ⟨ad497, A497_1, c497_1, e497, hx497_0, hx497_1, hx497_2, hx497_3, hl497_1, hi497_1⟩ := at_T40 (Kd.V_reads' HO_3.out).2.2 x7_2 p497 q497
              cases e497
              obtain ⟨ce497, hce497, hMe497, hcc497⟩ := Kd.V_get HO_3.out z40 x7_2 p497 (by first | exact q497 | exact of_decide_eq_true (by first | (with_reducible assumption) | assumption) | (have e_ := (Kd.V_reads' HO_3.out).1; omega))
              obtain ⟨ua497_1, uc497_1, rfl, ul497_1, ge497_1⟩ := k40_openF hMe497
              have hv497_1 := hcc497 1 _ rfl
              rw [add_field _ _ 1 (by omega)] at hv497_1
              replace hv497_1 := Option.some.inj (hv497_1.symm.trans hx497_1)
              injection hv497_1 with hva_ hvn_ hvc_
              rw [hva_] at ge497_1
              rw [hvc_] at ul497_1
              have HL497_1 := Aside0.mk (show Kd.V (Kd.int .i64) 3 _ w.heap.size _ _ ((rd_T40 t479 x7_2).f1) from Kd.V_mk ul497_1 ge497_1)
              clear hva_ hvn_ hvc_ ge497_1 ul497_1
              clear hcc497 hce497
              have HR497_1 := Aside0.mk hi497_1
              have HC497_1 := Aside0.mk hl497_1
              clear hi497_1 hl497_1
              replace p497 := eq_true p497
              replace q497 := eq_true q497
              go_wp2
              go_roundg k3
              case measure => have := HJ4.out; have := HK2.out; have := HK3.out; omega
              case rel => exact ⟨(false), (wrap64 (x9_3 + 1)), (by first | rfl | (simp; done) | (simp [*]; done)), (by first | rfl | (simp; done) | (simp [*]; done)), H', ⟨by have := HJ4.out; have := HK2.out; have := HK3.out; omega⟩, ⟨by (with_reducible repeat (first | apply Kd.V_alloc | apply Kd.V_drewN | apply Kd.V_drew)); exact HO_3.out⟩, ⟨by (with_reducible repeat (first | apply Kd.V_alloc | apply Kd.V_drewN | apply Kd.V_drew)); exact HO_4.out⟩, ⟨by (with_reducible repeat (first | apply Kd.R_alloc | apply Kd.R_drewN | apply Kd.R_drew)); exact HO_6.out⟩, ⟨by repeat (first | (with_reducible first | exact HB.out | apply below_alloc | apply pw_below_drewN | apply below_drew1) | exact HB.out)⟩⟩
            ·rw [if_neg c28] at H
             have c28b0 : decide (x9_3 < (((rd_T40 t479 x7_2).f1).length : Int)) = false := decide_eq_false c28
             clear c28
             by_cases c34 : x7_2 < (t486.length : Int)
             ·rw [if_pos c34] at H
              have c34b0 : decide (x7_2 < (t486.length : Int)) = true := decide_eq_true c34
              clear c34
              by_cases c35 : (rd t486 x7_2) = 0
              ·rw [if_pos c35] at H
               have c35b0 : ((rd t486 x7_2) == 0) = true := beq_iff_eq.mpr c35
               have c35b1 : ((rd t486 x7_2) != 0) = false := bne_eq_false_iff_eq.mpr c35
               clear c35
               by_cases c36 : x8_3 = true
               ·subst c36
                have H1 : ((laws_isIn.f k3 t482 x7_2).bind fun t502 => (if t502 = true then (some false) else (if (rd t486 x7_2) = 1 then ((laws_isIn.f k3 t482 x7_2).bind fun t504 => (if t504 = true then (if (rd t486 x7_2) = 2 then (some false) else (laws_FnOutcomes.l0 k3 t479 t482 t486 (wrap64 (x7_2 + 1)))) else (some false))) else (if (rd t486 x7_2) = 2 then (some false) else (laws_FnOutcomes.l0 k3 t479 t482 t486 (wrap64 (x7_2 + 1))))))) = some r := by rw [if_pos rfl] at H; exact H
                clear H
                have H := H1
                clear H1
                replace H := Option.bind_eq_some_iff.mp H
                obtain ⟨t502, A370, H⟩ := H
                replace H : (if t502 = true then (some false) else (if (rd t486 x7_2) = 1 then ((laws_isIn.f k3 t482 x7_2).bind fun t504 => (if t504 = true then (if (rd t486 x7_2) = 2 then (some false) else (laws_FnOutcomes.l0 k3 t479 t482 t486 (wrap64 (x7_2 + 1)))) else (some false))) else (if (rd t486 x7_2) = 2 then (some false) else (laws_FnOutcomes.l0 k3 t479 t482 t486 (wrap64 (x7_2 + 1)))))) = some r := H
                have A37 := Aside0.mk A370
                clear A370
                by_cases c38 : t502 = true
                ·subst c38
                 have H1 : (some false) = some r := by rw [if_pos rfl] at H; exact H
                 clear H
                 have H := H1
                 clear H1
                 obtain rfl := Option.some.inj H
                 have p497 : 0 ≤ (x7_2 : Int) := of_decide_eq_true (by first | (with_reducible assumption) | assumption)
                 have q497 : x7_2 < (t479.length : Int) := of_decide_eq_true (by first | (with_reducible assumption) | assumption)
                 obtain ⟨ad497, A497_1, c497_1, e497, hx497_0, hx497_1, hx497_2, hx497_3, hl497_1, hi497_1⟩ := at_T40 (Kd.V_reads' HO_3.out).2.2 x7_2 p497 q497
                 cases e497
                 obtain ⟨ce497, hce497, hMe497, hcc497⟩ := Kd.V_get HO_3.out z40 x7_2 p497 (by first | exact q497 | exact of_decide_eq_true (by first | (with_reducible assumption) | assumption) | (have e_ := (Kd.V_reads' HO_3.out).1; omega))
                 obtain ⟨ua497_1, uc497_1, rfl, ul497_1, ge497_1⟩ := k40_openF hMe497
                 have hv497_1 := hcc497 1 _ rfl
                 rw [add_field _ _ 1 (by omega)] at hv497_1
                 replace hv497_1 := Option.some.inj (hv497_1.symm.trans hx497_1)
                 injection hv497_1 with hva_ hvn_ hvc_
                 rw [hva_] at ge497_1
                 rw [hvc_] at ul497_1
                 have HL497_1 := Aside0.mk (show Kd.V (Kd.int .i64) 3 _ w.heap.size _ _ ((rd_T40 t479 x7_2).f1) from Kd.V_mk ul497_1 ge497_1)
                 clear hva_ hvn_ hvc_ ge497_1 ul497_1
                 clear hcc497 hce497
                 have HR497_1 := Aside0.mk hi497_1
                 have HC497_1 := Aside0.mk hl497_1
                 clear hi497_1 hl497_1
                 replace p497 := eq_true p497
                 replace q497 := eq_true q497
                 obtain ⟨Ao39, co39, eo39⟩ := Kd.R_slice HO_6.out
                 subst eo39
                 have p501 : 0 ≤ (x7_2 : Int) := of_decide_eq_true (by first | (with_reducible assumption) | assumption)
                 have q501 : x7_2 < (t486.length : Int) := of_decide_eq_true (by first | (with_reducible assumption) | assumption)
                 obtain ⟨ad501, e501, hx501_0⟩ := Kd.at_int (Kd.R_reads' HO_6.out).2.2 x7_2 p501 q501
                 cases e501
                 replace p501 := eq_true p501
                 replace q501 := eq_true q501
                 go_wp2_with (first | (go_at_call 14; (with_reducible refine (laws_isIn.calls k3 _ _ t482 x7_2 true _ ?side1 ?side2 A37.out).mono ?_); (case side1 => repeat (first | exact (Kd.V_reads' HO_4.out).2.2 | (with_reducible refine Kd.C_alloc ?_ _) | (with_reducible refine Kd.C_drewN ?_ _) | (with_reducible refine Kd.C_drew ?_))); (case side2 => exact (Kd.V_reads' HO_4.out).2.1); rintro e w' ⟨rfl, ⟨nd, rfl⟩⟩))
                 go_ret
                 exact ⟨by first | rfl | (simp [errW_none, errW_some] <;> rfl) | (simp [*, errW_none, errW_some] <;> rfl), by repeat (first | (with_reducible first | exact HB.out | apply below_alloc | apply pw_below_drewN | apply below_drew1) | exact HB.out)⟩
                ·replace c38 := Bool.eq_false_iff.mpr c38
                 subst c38
                 have H1 : (if (rd t486 x7_2) = 1 then ((laws_isIn.f k3 t482 x7_2).bind fun t504 => (if t504 = true then (if (rd t486 x7_2) = 2 then (some false) else (laws_FnOutcomes.l0 k3 t479 t482 t486 (wrap64 (x7_2 + 1)))) else (some false))) else (if (rd t486 x7_2) = 2 then (some false) else (laws_FnOutcomes.l0 k3 t479 t482 t486 (wrap64 (x7_2 + 1))))) = some r := by rw [if_neg (show ¬ (false = true) by decide)] at H; exact H
                 clear H
                 have H := H1
                 clear H1
                 by_cases c40 : (rd t486 x7_2) = 1
                 ·exact absurd (c40.symm.trans (beq_iff_eq.mp c35b0)) (by decide)
                 ·rw [if_neg c40] at H
                  have c40b0 : ((rd t486 x7_2) == 1) = false := beq_eq_false_iff_ne.mpr c40
                  have c40b1 : ((rd t486 x7_2) != 1) = true := bne_iff_ne.mpr c40
                  by_cases c47 : (rd t486 x7_2) = 2
                  ·exact absurd (c47.symm.trans (beq_iff_eq.mp c35b0)) (by decide)
                  ·rw [if_neg c47] at H
                   have c47b0 : ((rd t486 x7_2) == 2) = false := beq_eq_false_iff_ne.mpr c47
                   have c47b1 : ((rd t486 x7_2) != 2) = true := bne_iff_ne.mpr c47
                   have H' := Aside0.mk H
                   clear H
                   have p497 : 0 ≤ (x7_2 : Int) := of_decide_eq_true (by first | (with_reducible assumption) | assumption)
                   have q497 : x7_2 < (t479.length : Int) := of_decide_eq_true (by first | (with_reducible assumption) | assumption)
                   obtain ⟨ad497, A497_1, c497_1, e497, hx497_0, hx497_1, hx497_2, hx497_3, hl497_1, hi497_1⟩ := at_T40 (Kd.V_reads' HO_3.out).2.2 x7_2 p497 q497
                   cases e497
                   obtain ⟨ce497, hce497, hMe497, hcc497⟩ := Kd.V_get HO_3.out z40 x7_2 p497 (by first | exact q497 | exact of_decide_eq_true (by first | (with_reducible assumption) | assumption) | (have e_ := (Kd.V_reads' HO_3.out).1; omega))
                   obtain ⟨ua497_1, uc497_1, rfl, ul497_1, ge497_1⟩ := k40_openF hMe497
                   have hv497_1 := hcc497 1 _ rfl
                   rw [add_field _ _ 1 (by omega)] at hv497_1
                   replace hv497_1 := Option.some.inj (hv497_1.symm.trans hx497_1)
                   injection hv497_1 with hva_ hvn_ hvc_
                   rw [hva_] at ge497_1
                   rw [hvc_] at ul497_1
                   have HL497_1 := Aside0.mk (show Kd.V (Kd.int .i64) 3 _ w.heap.size _ _ ((rd_T40 t479 x7_2).f1) from Kd.V_mk ul497_1 ge497_1)
                   clear hva_ hvn_ hvc_ ge497_1 ul497_1
                   clear hcc497 hce497
                   have HR497_1 := Aside0.mk hi497_1
                   have HC497_1 := Aside0.mk hl497_1
                   clear hi497_1 hl497_1
                   replace p497 := eq_true p497
                   replace q497 := eq_true q497
                   obtain ⟨Ao49, co49, eo49⟩ := Kd.R_slice HO_6.out
                   subst eo49
                   have p501 : 0 ≤ (x7_2 : Int) := of_decide_eq_true (by first | (with_reducible assumption) | assumption)
                   have q501 : x7_2 < (t486.length : Int) := of_decide_eq_true (by first | (with_reducible assumption) | assumption)
                   obtain ⟨ad501, e501, hx501_0⟩ := Kd.at_int (Kd.R_reads' HO_6.out).2.2 x7_2 p501 q501
                   cases e501
                   replace p501 := eq_true p501
                   replace q501 := eq_true q501
                   go_wp2_with (first | (go_at_call 14; (with_reducible refine (laws_isIn.calls k3 _ _ t482 x7_2 false _ ?side1 ?side2 A37.out).mono ?_); (case side1 => repeat (first | exact (Kd.V_reads' HO_4.out).2.2 | (with_reducible refine Kd.C_alloc ?_ _) | (with_reducible refine Kd.C_drewN ?_ _) | (with_reducible refine Kd.C_drew ?_))); (case side2 => exact (Kd.V_reads' HO_4.out).2.1); rintro e w' ⟨rfl, ⟨nd, rfl⟩⟩; have p503 : 0 ≤ (x7_2 : Int) := of_decide_eq_true (by first | (with_reducible assumption) | assumption); have q503 : x7_2 < (t486.length : Int) := of_decide_eq_true (by first | (with_reducible assumption) | assumption); obtain ⟨ad503, e503, hx503_0⟩ := Kd.at_int (Kd.R_reads' HO_6.out).2.2 x7_2 p503 q503; obtain rfl : ad501 = ad503 := (by injection e503); replace p503 := eq_true p503; replace q503 := eq_true q503; have p506 : 0 ≤ (x7_2 : Int) := of_decide_eq_true (by first | (with_reducible assumption) | assumption); have q506 : x7_2 < (t486.length : Int) := of_decide_eq_true (by first | (with_reducible assumption) | assumption); obtain ⟨ad506, e506, hx506_0⟩ := Kd.at_int (Kd.R_reads' HO_6.out).2.2 x7_2 p506 q506; obtain rfl : ad501 = ad506 := (by injection e506); replace p506 := eq_true p506; replace q506 := eq_true q506))
                   go_roundg k3
                   case measure => have := HJ4.out; have := HK2.out; have := HK3.out; omega
                   case rel => exact ⟨(wrap64 (x7_2 + 1)), (by first | rfl | (simp; done) | (simp [*]; done)), H', ⟨by have := HJ4.out; have := HK2.out; have := HK3.out; omega⟩, ⟨by (with_reducible repeat (first | apply Kd.V_alloc | apply Kd.V_drewN | apply Kd.V_drew)); exact HO_3.out⟩, ⟨by (with_reducible repeat (first | apply Kd.V_alloc | apply Kd.V_drewN | apply Kd.V_drew)); exact HO_4.out⟩, ⟨by (with_reducible repeat (first | apply Kd.R_alloc | apply Kd.R_drewN | apply Kd.R_drew)); exact HO_6.out⟩, ⟨by repeat (first | (with_reducible first | exact HB.out | apply below_alloc | apply pw_below_drewN | apply below_drew1) | exact HB.out)⟩⟩
               ·replace c36 := Bool.eq_false_iff.mpr c36
                subst c36
                have H1 : (some false) = some r := by rw [if_neg (show ¬ (false = true) by decide)] at H; exact H
                clear H
                have H := H1
                clear H1
                obtain rfl := Option.some.inj H
                have p497 : 0 ≤ (x7_2 : Int) := of_decide_eq_true (by first | (with_reducible assumption) | assumption)
                have q497 : x7_2 < (t479.length : Int) := of_decide_eq_true (by first | (with_reducible assumption) | assumption)
                obtain ⟨ad497, A497_1, c497_1, e497, hx497_0, hx497_1, hx497_2, hx497_3, hl497_1, hi497_1⟩ := at_T40 (Kd.V_reads' HO_3.out).2.2 x7_2 p497 q497
                cases e497
                obtain ⟨ce497, hce497, hMe497, hcc497⟩ := Kd.V_get HO_3.out z40 x7_2 p497 (by first | exact q497 | exact of_decide_eq_true (by first | (with_reducible assumption) | assumption) | (have e_ := (Kd.V_reads' HO_3.out).1; omega))
                obtain ⟨ua497_1, uc497_1, rfl, ul497_1, ge497_1⟩ := k40_openF hMe497
                have hv497_1 := hcc497 1 _ rfl
                rw [add_field _ _ 1 (by omega)] at hv497_1
                replace hv497_1 := Option.some.inj (hv497_1.symm.trans hx497_1)
                injection hv497_1 with hva_ hvn_ hvc_
                rw [hva_] at ge497_1
                rw [hvc_] at ul497_1
                have HL497_1 := Aside0.mk (show Kd.V (Kd.int .i64) 3 _ w.heap.size _ _ ((rd_T40 t479 x7_2).f1) from Kd.V_mk ul497_1 ge497_1)
                clear hva_ hvn_ hvc_ ge497_1 ul497_1
                clear hcc497 hce497
                have HR497_1 := Aside0.mk hi497_1
                have HC497_1 := Aside0.mk hl497_1
                clear hi497_1 hl497_1
                replace p497 := eq_true p497
                replace q497 := eq_true q497
                obtain ⟨Ao50, co50, eo50⟩ := Kd.R_slice HO_6.out
                subst eo50
                have p501 : 0 ≤ (x7_2 : Int) := of_decide_eq_true (by first | (with_reducible assumption) | assumption)
                have q501 : x7_2 < (t486.length : Int) := of_decide_eq_true (by first | (with_reducible assumption) | assumption)
                obtain ⟨ad501, e501, hx501_0⟩ := Kd.at_int (Kd.R_reads' HO_6.out).2.2 x7_2 p501 q501
                cases e501
                replace p501 := eq_true p501
                replace q501 := eq_true q501
                go_wp2
                go_ret
                exact ⟨by first | rfl | (simp [errW_none, errW_some] <;> rfl) | (simp [*, errW_none, errW_some] <;> rfl), by repeat (first | (with_reducible first | exact HB.out | apply below_alloc | apply pw_below_drewN | apply below_drew1) | exact HB.out)⟩
              ·rw [if_neg c35] at H
               have c35b0 : ((rd t486 x7_2) == 0) = false := beq_eq_false_iff_ne.mpr c35
               have c35b1 : ((rd t486 x7_2) != 0) = true := bne_iff_ne.mpr c35
               by_cases c51 : (rd t486 x7_2) = 1
               ·rw [if_pos c51] at H
                have c51b0 : ((rd t486 x7_2) == 1) = true := beq_iff_eq.mpr c51
                have c51b1 : ((rd t486 x7_2) != 1) = false := bne_eq_false_iff_eq.mpr c51
                clear c51
                by_cases c52 : x8_3 = true
                ·subst c52
                 have H1 : ((laws_isIn.f k3 t482 x7_2).bind fun t508 => (if t508 = true then (if (rd t486 x7_2) = 2 then (some false) else (laws_FnOutcomes.l0 k3 t479 t482 t486 (wrap64 (x7_2 + 1)))) else (some false))) = some r := by rw [if_pos rfl] at H; exact H
                 clear H
                 have H := H1
                 clear H1
                 replace H := Option.bind_eq_some_iff.mp H
                 obtain ⟨t508, A530, H⟩ := H
                 replace H : (if t508 = true then (if (rd t486 x7_2) = 2 then (some false) else (laws_FnOutcomes.l0 k3 t479 t482 t486 (wrap64 (x7_2 + 1)))) else (some false)) = some r := H
                 have A53 := Aside0.mk A530
                 clear A530
                 by_cases c54 : t508 = true
                 ·subst c54
                  have H1 : (if (rd t486 x7_2) = 2 then (some false) else (laws_FnOutcomes.l0 k3 t479 t482 t486 (wrap64 (x7_2 + 1)))) = some r := by rw [if_pos rfl] at H; exact H
                  clear H
                  have H := H1
                  clear H1
                  by_cases c55 : (rd t486 x7_2) = 2
                  ·exact absurd (c55.symm.trans (beq_iff_eq.mp c51b0)) (by decide)
                  ·rw [if_neg c55] at H
                   have c55b0 : ((rd t486 x7_2) == 2) = false := beq_eq_false_iff_ne.mpr c55
                   have c55b1 : ((rd t486 x7_2) != 2) = true := bne_iff_ne.mpr c55
                   have H' := Aside0.mk H
                   clear H
                   have p497 : 0 ≤ (x7_2 : Int) := of_decide_eq_true (by first | (with_reducible assumption) | assumption)
                   have q497 : x7_2 < (t479.length : Int) := of_decide_eq_true (by first | (with_reducible assumption) | assumption)
                   obtain ⟨ad497, A497_1, c497_1, e497, hx497_0, hx497_1, hx497_2, hx497_3, hl497_1, hi497_1⟩ := at_T40 (Kd.V_reads' HO_3.out).2.2 x7_2 p497 q497
                   cases e497
                   obtain ⟨ce497, hce497, hMe497, hcc497⟩ := Kd.V_get HO_3.out z40 x7_2 p497 (by first | exact q497 | exact of_decide_eq_true (by first | (with_reducible assumption) | assumption) | (have e_ := (Kd.V_reads' HO_3.out).1; omega))
                   obtain ⟨ua497_1, uc497_1, rfl, ul497_1, ge497_1⟩ := k40_openF hMe497
                   have hv497_1 := hcc497 1 _ rfl
                   rw [add_field _ _ 1 (by omega)] at hv497_1
                   replace hv497_1 := Option.some.inj (hv497_1.symm.trans hx497_1)
                   injection hv497_1 with hva_ hvn_ hvc_
                   rw [hva_] at ge497_1
                   rw [hvc_] at ul497_1
                   have HL497_1 := Aside0.mk (show Kd.V (Kd.int .i64) 3 _ w.heap.size _ _ ((rd_T40 t479 x7_2).f1) from Kd.V_mk ul497_1 ge497_1)
                   clear hva_ hvn_ hvc_ ge497_1 ul497_1
                   clear hcc497 hce497
                   have HR497_1 := Aside0.mk hi497_1
                   have HC497_1 := Aside0.mk hl497_1
                   clear hi497_1 hl497_1
                   replace p497 := eq_true p497
                   replace q497 := eq_true q497
                   obtain ⟨Ao57, co57, eo57⟩ := Kd.R_slice HO_6.out
                   subst eo57
                   have p501 : 0 ≤ (x7_2 : Int) := of_decide_eq_true (by first | (with_reducible assumption) | assumption)
                   have q501 : x7_2 < (t486.length : Int) := of_decide_eq_true (by first | (with_reducible assumption) | assumption)
                   obtain ⟨ad501, e501, hx501_0⟩ := Kd.at_int (Kd.R_reads' HO_6.out).2.2 x7_2 p501 q501
                   cases e501
                   replace p501 := eq_true p501
                   replace q501 := eq_true q501
                   have p507 : 0 ≤ (x7_2 : Int) := of_decide_eq_true (by first | (with_reducible assumption) | assumption)
                   have q507 : x7_2 < (t486.length : Int) := of_decide_eq_true (by first | (with_reducible assumption) | assumption)
                   obtain ⟨ad507, e507, hx507_0⟩ := Kd.at_int (Kd.R_reads' HO_6.out).2.2 x7_2 p507 q507
                   obtain rfl : ad501 = ad507 := (by injection e507)
                   replace p507 := eq_true p507
                   replace q507 := eq_true q507
                   go_wp2_with (first | (go_at_call 14; (with_reducible refine (laws_isIn.calls k3 _ _ t482 x7_2 true _ ?side1 ?side2 A53.out).mono ?_); (case side1 => repeat (first | exact (Kd.V_reads' HO_4.out).2.2 | (with_reducible refine Kd.C_alloc ?_ _) | (with_reducible refine Kd.C_drewN ?_ _) | (with_reducible refine Kd.C_drew ?_))); (case side2 => exact (Kd.V_reads' HO_4.out).2.1); rintro e w' ⟨rfl, ⟨nd, rfl⟩⟩; have p509 : 0 ≤ (x7_2 : Int) := of_decide_eq_true (by first | (with_reducible assumption) | assumption); have q509 : x7_2 < (t486.length : Int) := of_decide_eq_true (by first | (with_reducible assumption) | assumption); obtain ⟨ad509, e509, hx509_0⟩ := Kd.at_int (Kd.R_reads' HO_6.out).2.2 x7_2 p509 q509; obtain rfl : ad501 = ad509 := (by injection e509); replace p509 := eq_true p509; replace q509 := eq_true q509))
                   go_roundg k3
                   case measure => have := HJ4.out; have := HK2.out; have := HK3.out; omega
                   case rel => exact ⟨(wrap64 (x7_2 + 1)), (by first | rfl | (simp; done) | (simp [*]; done)), H', ⟨by have := HJ4.out; have := HK2.out; have := HK3.out; omega⟩, ⟨by (with_reducible repeat (first | apply Kd.V_alloc | apply Kd.V_drewN | apply Kd.V_drew)); exact HO_3.out⟩, ⟨by (with_reducible repeat (first | apply Kd.V_alloc | apply Kd.V_drewN | apply Kd.V_drew)); exact HO_4.out⟩, ⟨by (with_reducible repeat (first | apply Kd.R_alloc | apply Kd.R_drewN | apply Kd.R_drew)); exact HO_6.out⟩, ⟨by repeat (first | (with_reducible first | exact HB.out | apply below_alloc | apply pw_below_drewN | apply below_drew1) | exact HB.out)⟩⟩
                 ·replace c54 := Bool.eq_false_iff.mpr c54
                  subst c54
                  have H1 : (some false) = some r := by rw [if_neg (show ¬ (false = true) by decide)] at H; exact H
                  clear H
                  have H := H1
                  clear H1
                  obtain rfl := Option.some.inj H
                  have p497 : 0 ≤ (x7_2 : Int) := of_decide_eq_true (by first | (with_reducible assumption) | assumption)
                  have q497 : x7_2 < (t479.length : Int) := of_decide_eq_true (by first | (with_reducible assumption) | assumption)
                  obtain ⟨ad497, A497_1, c497_1, e497, hx497_0, hx497_1, hx497_2, hx497_3, hl497_1, hi497_1⟩ := at_T40 (Kd.V_reads' HO_3.out).2.2 x7_2 p497 q497
                  cases e497
                  obtain ⟨ce497, hce497, hMe497, hcc497⟩ := Kd.V_get HO_3.out z40 x7_2 p497 (by first | exact q497 | exact of_decide_eq_true (by first | (with_reducible assumption) | assumption) | (have e_ := (Kd.V_reads' HO_3.out).1; omega))
                  obtain ⟨ua497_1, uc497_1, rfl, ul497_1, ge497_1⟩ := k40_openF hMe497
                  have hv497_1 := hcc497 1 _ rfl
                  rw [add_field _ _ 1 (by omega)] at hv497_1
                  replace hv497_1 := Option.some.inj (hv497_1.symm.trans hx497_1)
                  injection hv497_1 with hva_ hvn_ hvc_
                  rw [hva_] at ge497_1
                  rw [hvc_] at ul497_1
                  have HL497_1 := Aside0.mk (show Kd.V (Kd.int .i64) 3 _ w.heap.size _ _ ((rd_T40 t479 x7_2).f1) from Kd.V_mk ul497_1 ge497_1)
                  clear hva_ hvn_ hvc_ ge497_1 ul497_1
                  clear hcc497 hce497
                  have HR497_1 := Aside0.mk hi497_1
                  have HC497_1 := Aside0.mk hl497_1
                  clear hi497_1 hl497_1
                  replace p497 := eq_true p497
                  replace q497 := eq_true q497
                  obtain ⟨Ao58, co58, eo58⟩ := Kd.R_slice HO_6.out
                  subst eo58
                  have p501 : 0 ≤ (x7_2 : Int) := of_decide_eq_true (by first | (with_reducible assumption) | assumption)
                  have q501 : x7_2 < (t486.length : Int) := of_decide_eq_true (by first | (with_reducible assumption) | assumption)
                  obtain ⟨ad501, e501, hx501_0⟩ := Kd.at_int (Kd.R_reads' HO_6.out).2.2 x7_2 p501 q501
                  cases e501
                  replace p501 := eq_true p501
                  replace q501 := eq_true q501
                  have p507 : 0 ≤ (x7_2 : Int) := of_decide_eq_true (by first | (with_reducible assumption) | assumption)
                  have q507 : x7_2 < (t486.length : Int) := of_decide_eq_true (by first | (with_reducible assumption) | assumption)
                  obtain ⟨ad507, e507, hx507_0⟩ := Kd.at_int (Kd.R_reads' HO_6.out).2.2 x7_2 p507 q507
                  obtain rfl : ad501 = ad507 := (by injection e507)
                  replace p507 := eq_true p507
                  replace q507 := eq_true q507
                  go_wp2_with (first | (go_at_call 14; (with_reducible refine (laws_isIn.calls k3 _ _ t482 x7_2 false _ ?side1 ?side2 A53.out).mono ?_); (case side1 => repeat (first | exact (Kd.V_reads' HO_4.out).2.2 | (with_reducible refine Kd.C_alloc ?_ _) | (with_reducible refine Kd.C_drewN ?_ _) | (with_reducible refine Kd.C_drew ?_))); (case side2 => exact (Kd.V_reads' HO_4.out).2.1); rintro e w' ⟨rfl, ⟨nd, rfl⟩⟩))
                  go_ret
                  exact ⟨by first | rfl | (simp [errW_none, errW_some] <;> rfl) | (simp [*, errW_none, errW_some] <;> rfl), by repeat (first | (with_reducible first | exact HB.out | apply below_alloc | apply pw_below_drewN | apply below_drew1) | exact HB.out)⟩
                ·replace c52 := Bool.eq_false_iff.mpr c52
                 subst c52
                 have H1 : (some false) = some r := by rw [if_neg (show ¬ (false = true) by decide)] at H; exact H
                 clear H
                 have H := H1
                 clear H1
                 obtain rfl := Option.some.inj H
                 have p497 : 0 ≤ (x7_2 : Int) := of_decide_eq_true (by first | (with_reducible assumption) | assumption)
                 have q497 : x7_2 < (t479.length : Int) := of_decide_eq_true (by first | (with_reducible assumption) | assumption)
                 obtain ⟨ad497, A497_1, c497_1, e497, hx497_0, hx497_1, hx497_2, hx497_3, hl497_1, hi497_1⟩ := at_T40 (Kd.V_reads' HO_3.out).2.2 x7_2 p497 q497
                 cases e497
                 obtain ⟨ce497, hce497, hMe497, hcc497⟩ := Kd.V_get HO_3.out z40 x7_2 p497 (by first | exact q497 | exact of_decide_eq_true (by first | (with_reducible assumption) | assumption) | (have e_ := (Kd.V_reads' HO_3.out).1; omega))
                 obtain ⟨ua497_1, uc497_1, rfl, ul497_1, ge497_1⟩ := k40_openF hMe497
                 have hv497_1 := hcc497 1 _ rfl
                 rw [add_field _ _ 1 (by omega)] at hv497_1
                 replace hv497_1 := Option.some.inj (hv497_1.symm.trans hx497_1)
                 injection hv497_1 with hva_ hvn_ hvc_
                 rw [hva_] at ge497_1
                 rw [hvc_] at ul497_1
                 have HL497_1 := Aside0.mk (show Kd.V (Kd.int .i64) 3 _ w.heap.size _ _ ((rd_T40 t479 x7_2).f1) from Kd.V_mk ul497_1 ge497_1)
                 clear hva_ hvn_ hvc_ ge497_1 ul497_1
                 clear hcc497 hce497
                 have HR497_1 := Aside0.mk hi497_1
                 have HC497_1 := Aside0.mk hl497_1
                 clear hi497_1 hl497_1
                 replace p497 := eq_true p497
                 replace q497 := eq_true q497
                 obtain ⟨Ao59, co59, eo59⟩ := Kd.R_slice HO_6.out
                 subst eo59
                 have p501 : 0 ≤ (x7_2 : Int) := of_decide_eq_true (by first | (with_reducible assumption) | assumption)
                 have q501 : x7_2 < (t486.length : Int) := of_decide_eq_true (by first | (with_reducible assumption) | assumption)
                 obtain ⟨ad501, e501, hx501_0⟩ := Kd.at_int (Kd.R_reads' HO_6.out).2.2 x7_2 p501 q501
                 cases e501
                 replace p501 := eq_true p501
                 replace q501 := eq_true q501
                 have p507 : 0 ≤ (x7_2 : Int) := of_decide_eq_true (by first | (with_reducible assumption) | assumption)
                 have q507 : x7_2 < (t486.length : Int) := of_decide_eq_true (by first | (with_reducible assumption) | assumption)
                 obtain ⟨ad507, e507, hx507_0⟩ := Kd.at_int (Kd.R_reads' HO_6.out).2.2 x7_2 p507 q507
                 obtain rfl : ad501 = ad507 := (by injection e507)
                 replace p507 := eq_true p507
                 replace q507 := eq_true q507
                 go_wp2
                 go_ret
                 exact ⟨by first | rfl | (simp [errW_none, errW_some] <;> rfl) | (simp [*, errW_none, errW_some] <;> rfl), by repeat (first | (with_reducible first | exact HB.out | apply below_alloc | apply pw_below_drewN | apply below_drew1) | exact HB.out)⟩
               ·rw [if_neg c51] at H
                have c51b0 : ((rd t486 x7_2) == 1) = false := beq_eq_false_iff_ne.mpr c51
                have c51b1 : ((rd t486 x7_2) != 1) = true := bne_iff_ne.mpr c51
                by_cases c60 : (rd t486 x7_2) = 2
                ·rw [if_pos c60] at H
                 have c60b0 : ((rd t486 x7_2) == 2) = true := beq_iff_eq.mpr c60
                 have c60b1 : ((rd t486 x7_2) != 2) = false := bne_eq_false_iff_eq.mpr c60
                 clear c60
                 by_cases c61 : x8_3 = true
                 ·subst c61
                  have H1 : (some false) = some r := by rw [if_pos rfl] at H; exact H
                  clear H
                  have H := H1
                  clear H1
                  obtain rfl := Option.some.inj H
                  have p497 : 0 ≤ (x7_2 : Int) := of_decide_eq_true (by first | (with_reducible assumption) | assumption)
                  have q497 : x7_2 < (t479.length : Int) := of_decide_eq_true (by first | (with_reducible assumption) | assumption)
                  obtain ⟨ad497, A497_1, c497_1, e497, hx497_0, hx497_1, hx497_2, hx497_3, hl497_1, hi497_1⟩ := at_T40 (Kd.V_reads' HO_3.out).2.2 x7_2 p497 q497
                  cases e497
                  obtain ⟨ce497, hce497, hMe497, hcc497⟩ := Kd.V_get HO_3.out z40 x7_2 p497 (by first | exact q497 | exact of_decide_eq_true (by first | (with_reducible assumption) | assumption) | (have e_ := (Kd.V_reads' HO_3.out).1; omega))
                  obtain ⟨ua497_1, uc497_1, rfl, ul497_1, ge497_1⟩ := k40_openF hMe497
                  have hv497_1 := hcc497 1 _ rfl
                  rw [add_field _ _ 1 (by omega)] at hv497_1
                  replace hv497_1 := Option.some.inj (hv497_1.symm.trans hx497_1)
                  injection hv497_1 with hva_ hvn_ hvc_
                  rw [hva_] at ge497_1
                  rw [hvc_] at ul497_1
                  have HL497_1 := Aside0.mk (show Kd.V (Kd.int .i64) 3 _ w.heap.size _ _ ((rd_T40 t479 x7_2).f1) from Kd.V_mk ul497_1 ge497_1)
                  clear hva_ hvn_ hvc_ ge497_1 ul497_1
                  clear hcc497 hce497
                  have HR497_1 := Aside0.mk hi497_1
                  have HC497_1 := Aside0.mk hl497_1
                  clear hi497_1 hl497_1
                  replace p497 := eq_true p497
                  replace q497 := eq_true q497
                  obtain ⟨Ao62, co62, eo62⟩ := Kd.R_slice HO_6.out
                  subst eo62
                  have p501 : 0 ≤ (x7_2 : Int) := of_decide_eq_true (by first | (with_reducible assumption) | assumption)
                  have q501 : x7_2 < (t486.length : Int) := of_decide_eq_true (by first | (with_reducible assumption) | assumption)
                  obtain ⟨ad501, e501, hx501_0⟩ := Kd.at_int (Kd.R_reads' HO_6.out).2.2 x7_2 p501 q501
                  cases e501
                  replace p501 := eq_true p501
                  replace q501 := eq_true q501
                  have p507 : 0 ≤ (x7_2 : Int) := of_decide_eq_true (by first | (with_reducible assumption) | assumption)
                  have q507 : x7_2 < (t486.length : Int) := of_decide_eq_true (by first | (with_reducible assumption) | assumption)
                  obtain ⟨ad507, e507, hx507_0⟩ := Kd.at_int (Kd.R_reads' HO_6.out).2.2 x7_2 p507 q507
                  obtain rfl : ad501 = ad507 := (by injection e507)
                  replace p507 := eq_true p507
                  replace q507 := eq_true q507
                  have p510 : 0 ≤ (x7_2 : Int) := of_decide_eq_true (by first | (with_reducible assumption) | assumption)
                  have q510 : x7_2 < (t486.length : Int) := of_decide_eq_true (by first | (with_reducible assumption) | assumption)
                  obtain ⟨ad510, e510, hx510_0⟩ := Kd.at_int (Kd.R_reads' HO_6.out).2.2 x7_2 p510 q510
                  obtain rfl : ad501 = ad510 := (by injection e510)
                  replace p510 := eq_true p510
                  replace q510 := eq_true q510
                  go_wp2
                  go_ret
                  exact ⟨by first | rfl | (simp [errW_none, errW_some] <;> rfl) | (simp [*, errW_none, errW_some] <;> rfl), by repeat (first | (with_reducible first | exact HB.out | apply below_alloc | apply pw_below_drewN | apply below_drew1) | exact HB.out)⟩
                 ·replace c61 := Bool.eq_false_iff.mpr c61
                  subst c61
                  have H1 : (laws_FnOutcomes.l0 k3 t479 t482 t486 (wrap64 (x7_2 + 1))) = some r := by rw [if_neg (show ¬ (false = true) by decide)] at H; exact H
                  clear H
                  have H := H1
                  clear H1
                  have H' := Aside0.mk H
                  clear H
                  have p497 : 0 ≤ (x7_2 : Int) := of_decide_eq_true (by first | (with_reducible assumption) | assumption)
                  have q497 : x7_2 < (t479.length : Int) := of_decide_eq_true (by first | (with_reducible assumption) | assumption)
                  obtain ⟨ad497, A497_1, c497_1, e497, hx497_0, hx497_1, hx497_2, hx497_3, hl497_1, hi497_1⟩ := at_T40 (Kd.V_reads' HO_3.out).2.2 x7_2 p497 q497
                  cases e497
                  obtain ⟨ce497, hce497, hMe497, hcc497⟩ := Kd.V_get HO_3.out z40 x7_2 p497 (by first | exact q497 | exact of_decide_eq_true (by first | (with_reducible assumption) | assumption) | (have e_ := (Kd.V_reads' HO_3.out).1; omega))
                  obtain ⟨ua497_1, uc497_1, rfl, ul497_1, ge497_1⟩ := k40_openF hMe497
                  have hv497_1 := hcc497 1 _ rfl
                  rw [add_field _ _ 1 (by omega)] at hv497_1
                  replace hv497_1 := Option.some.inj (hv497_1.symm.trans hx497_1)
                  injection hv497_1 with hva_ hvn_ hvc_
                  rw [hva_] at ge497_1
                  rw [hvc_] at ul497_1
                  have HL497_1 := Aside0.mk (show Kd.V (Kd.int .i64) 3 _ w.heap.size _ _ ((rd_T40 t479 x7_2).f1) from Kd.V_mk ul497_1 ge497_1)
                  clear hva_ hvn_ hvc_ ge497_1 ul497_1
                  clear hcc497 hce497
                  have HR497_1 := Aside0.mk hi497_1
                  have HC497_1 := Aside0.mk hl497_1
                  clear hi497_1 hl497_1
                  replace p497 := eq_true p497
                  replace q497 := eq_true q497
                  obtain ⟨Ao63, co63, eo63⟩ := Kd.R_slice HO_6.out
                  subst eo63
                  have p501 : 0 ≤ (x7_2 : Int) := of_decide_eq_true (by first | (with_reducible assumption) | assumption)
                  have q501 : x7_2 < (t486.length : Int) := of_decide_eq_true (by first | (with_reducible assumption) | assumption)
                  obtain ⟨ad501, e501, hx501_0⟩ := Kd.at_int (Kd.R_reads' HO_6.out).2.2 x7_2 p501 q501
                  cases e501
                  replace p501 := eq_true p501
                  replace q501 := eq_true q501
                  have p507 : 0 ≤ (x7_2 : Int) := of_decide_eq_true (by first | (with_reducible assumption) | assumption)
                  have q507 : x7_2 < (t486.length : Int) := of_decide_eq_true (by first | (with_reducible assumption) | assumption)
                  obtain ⟨ad507, e507, hx507_0⟩ := Kd.at_int (Kd.R_reads' HO_6.out).2.2 x7_2 p507 q507
                  obtain rfl : ad501 = ad507 := (by injection e507)
                  replace p507 := eq_true p507
                  replace q507 := eq_true q507
                  have p510 : 0 ≤ (x7_2 : Int) := of_decide_eq_true (by first | (with_reducible assumption) | assumption)
                  have q510 : x7_2 < (t486.length : Int) := of_decide_eq_true (by first | (with_reducible assumption) | assumption)
                  obtain ⟨ad510, e510, hx510_0⟩ := Kd.at_int (Kd.R_reads' HO_6.out).2.2 x7_2 p510 q510
                  obtain rfl : ad501 = ad510 := (by injection e510)
                  replace p510 := eq_true p510
                  replace q510 := eq_true q510
                  go_wp2
                  go_roundg k3
                  case measure => have := HJ4.out; have := HK2.out; have := HK3.out; omega
                  case rel => exact ⟨(wrap64 (x7_2 + 1)), (by first | rfl | (simp; done) | (simp [*]; done)), H', ⟨by have := HJ4.out; have := HK2.out; have := HK3.out; omega⟩, ⟨by (with_reducible repeat (first | apply Kd.V_alloc | apply Kd.V_drewN | apply Kd.V_drew)); exact HO_3.out⟩, ⟨by (with_reducible repeat (first | apply Kd.V_alloc | apply Kd.V_drewN | apply Kd.V_drew)); exact HO_4.out⟩, ⟨by (with_reducible repeat (first | apply Kd.R_alloc | apply Kd.R_drewN | apply Kd.R_drew)); exact HO_6.out⟩, ⟨by repeat (first | (with_reducible first | exact HB.out | apply below_alloc | apply pw_below_drewN | apply below_drew1) | exact HB.out)⟩⟩
                ·rw [if_neg c60] at H
                 have c60b0 : ((rd t486 x7_2) == 2) = false := beq_eq_false_iff_ne.mpr c60
                 have c60b1 : ((rd t486 x7_2) != 2) = true := bne_iff_ne.mpr c60
                 have H' := Aside0.mk H
                 clear H
                 have p497 : 0 ≤ (x7_2 : Int) := of_decide_eq_true (by first | (with_reducible assumption) | assumption)
                 have q497 : x7_2 < (t479.length : Int) := of_decide_eq_true (by first | (with_reducible assumption) | assumption)
                 obtain ⟨ad497, A497_1, c497_1, e497, hx497_0, hx497_1, hx497_2, hx497_3, hl497_1, hi497_1⟩ := at_T40 (Kd.V_reads' HO_3.out).2.2 x7_2 p497 q497
                 cases e497
                 obtain ⟨ce497, hce497, hMe497, hcc497⟩ := Kd.V_get HO_3.out z40 x7_2 p497 (by first | exact q497 | exact of_decide_eq_true (by first | (with_reducible assumption) | assumption) | (have e_ := (Kd.V_reads' HO_3.out).1; omega))
                 obtain ⟨ua497_1, uc497_1, rfl, ul497_1, ge497_1⟩ := k40_openF hMe497
                 have hv497_1 := hcc497 1 _ rfl
                 rw [add_field _ _ 1 (by omega)] at hv497_1
                 replace hv497_1 := Option.some.inj (hv497_1.symm.trans hx497_1)
                 injection hv497_1 with hva_ hvn_ hvc_
                 rw [hva_] at ge497_1
                 rw [hvc_] at ul497_1
                 have HL497_1 := Aside0.mk (show Kd.V (Kd.int .i64) 3 _ w.heap.size _ _ ((rd_T40 t479 x7_2).f1) from Kd.V_mk ul497_1 ge497_1)
                 clear hva_ hvn_ hvc_ ge497_1 ul497_1
                 clear hcc497 hce497
                 have HR497_1 := Aside0.mk hi497_1
                 have HC497_1 := Aside0.mk hl497_1
                 clear hi497_1 hl497_1
                 replace p497 := eq_true p497
                 replace q497 := eq_true q497
                 obtain ⟨Ao64, co64, eo64⟩ := Kd.R_slice HO_6.out
                 subst eo64
                 have p501 : 0 ≤ (x7_2 : Int) := of_decide_eq_true (by first | (with_reducible assumption) | assumption)
                 have q501 : x7_2 < (t486.length : Int) := of_decide_eq_true (by first | (with_reducible assumption) | assumption)
                 obtain ⟨ad501, e501, hx501_0⟩ := Kd.at_int (Kd.R_reads' HO_6.out).2.2 x7_2 p501 q501
                 cases e501
                 replace p501 := eq_true p501
                 replace q501 := eq_true q501
                 have p507 : 0 ≤ (x7_2 : Int) := of_decide_eq_true (by first | (with_reducible assumption) | assumption)
                 have q507 : x7_2 < (t486.length : Int) := of_decide_eq_true (by first | (with_reducible assumption) | assumption)
                 obtain ⟨ad507, e507, hx507_0⟩ := Kd.at_int (Kd.R_reads' HO_6.out).2.2 x7_2 p507 q507
                 obtain rfl : ad501 = ad507 := (by injection e507)
                 replace p507 := eq_true p507
                 replace q507 := eq_true q507
                 have p510 : 0 ≤ (x7_2 : Int) := of_decide_eq_true (by first | (with_reducible assumption) | assumption)
                 have q510 : x7_2 < (t486.length : Int) := of_decide_eq_true (by first | (with_reducible assumption) | assumption)
                 obtain ⟨ad510, e510, hx510_0⟩ := Kd.at_int (Kd.R_reads' HO_6.out).2.2 x7_2 p510 q510
                 obtain rfl : ad501 = ad510 := (by injection e510)
                 replace p510 := eq_true p510
                 replace q510 := eq_true q510
                 go_wp2
                 go_roundg k3
                 case measure => have := HJ4.out; have := HK2.out; have := HK3.out; omega
                 case rel => exact ⟨(wrap64 (x7_2 + 1)), (by first | rfl | (simp; done) | (simp [*]; done)), H', ⟨by have := HJ4.out; have := HK2.out; have := HK3.out; omega⟩, ⟨by (with_reducible repeat (first | apply Kd.V_alloc | apply Kd.V_drewN | apply Kd.V_drew)); exact HO_3.out⟩, ⟨by (with_reducible repeat (first | apply Kd.V_alloc | apply Kd.V_drewN | apply Kd.V_drew)); exact HO_4.out⟩, ⟨by (with_reducible repeat (first | apply Kd.R_alloc | apply Kd.R_drewN | apply Kd.R_drew)); exact HO_6.out⟩, ⟨by repeat (first | (with_reducible first | exact HB.out | apply below_alloc | apply pw_below_drewN | apply below_drew1) | exact HB.out)⟩⟩
             ·rw [if_neg c34] at H
              exact absurd H (by simp)
           ·rw [if_neg c27] at H
            exact absurd H (by simp)
          ·rw [if_neg c26] at H
           exact absurd H (by simp)
       ·rw [if_neg c25] at H
        have c25b0 : decide (x7_2 < (t479.length : Int)) = false := decide_eq_false c25
        clear c25
        obtain rfl := Option.some.inj H
        go_wp2
        go_ret
        exact ⟨by first | rfl | (simp [errW_none, errW_some] <;> rfl) | (simp [*, errW_none, errW_some] <;> rfl), by repeat (first | (with_reducible first | exact HB.out | apply below_alloc | apply pw_below_drewN | apply below_drew1) | exact HB.out)⟩

/-- THE ONE PURE STATEMENT of laws_FnOutcomes: yours. -/
def laws_FnOutcomes.Pure : Prop := ∀ (l0 : List Int), l0.length ≤ maxLen → l0.length * 1 ≤ 140737488351232 → (∀ x ∈ l0, (Lit.int .u8 x).wf = true) → ∃ k, laws_FnOutcomes.f k l0 = some true
theorem laws_FnOutcomes.walk (P : laws_FnOutcomes.Pure) (a0 : Option Addr) (len0 cap0 : Nat) (z0 : List Int) (w : World) (w0 : (a0 = none ∧ len0 = 0 ∧ cap0 = 0 ∧ z0 = []) ∨ ∃ x, a0 = some x ∧ len0 ≤ cap0 ∧ cap0 ≤ maxLen ∧ z0.length = cap0 ∧ (∀ i, i < z0.length → w.cell? (x.add i) = some (.int .u8 (z0.getD i 0))) ∧ ∀ n ∈ z0, (Lit.int .u8 n).wf = true) (y0 : len0 * 1 ≤ 140737488351232) (hT_ : Tab w) :
  Calls Tryd.prog 9 #[.slice a0 len0 cap0] w fun e w' => e = .returned (.bool true) ∧ Below w.heap.size w w' := by
 obtain ⟨l0, rfl, hr0, hm0, hw0, hc0⟩ := ReadsInt.ofRowC w0
 obtain ⟨k, h⟩ := P l0 hm0 y0 hw0
 refine (laws_FnOutcomes.calls k _ _ l0 true w (Kd.C_of_reads (d := (0 : Int)) (h1 := fun _ => rfl) hr0) hc0 h hT_).mono ?_
 rintro e w' ⟨rfl, hd⟩
 exact ⟨rfl, hd⟩

end Go.Proofs.YtmfbhcooldngoaaDoor.G
