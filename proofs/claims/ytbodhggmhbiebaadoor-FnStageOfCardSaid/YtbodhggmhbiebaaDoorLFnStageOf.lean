-- SLIM
-- Written by hyb.py, a driver of this session round the print.py of the kit. Lean checks it.
import Derived.Test.YtbodhggmhbiebaaDoorWRepsOne
import Derived.Test.YtbodhggmhbiebaaDoorG0
import Derived.Test.YtbodhggmhbiebaaDoorG3
import Derived.Test.YtbodhggmhbiebaaDoorG4
import Derived.Test.YtbodhggmhbiebaaDoorHDraw
import Derived.Test.YtbodhggmhbiebaaDoorHStage
namespace Go.Proofs.YtbodhggmhbiebaaDoor.G
open Go.RowKit Go.Proofs.YtbodhggmhbiebaaDoorW.PrintWords Go.Proofs.YtbodhggmhbiebaaDoorW.PrintLast Go.Proofs.YtbodhggmhbiebaaDoorW.PrintMore
attribute [local go_sem] max2_int min2_int max_two min_two max_three min_three max_four min_four   -- for this text's walks alone
set_option linter.unusedVariables false
set_option linter.unusedSimpArgs false

/-! ### laws_FnStageOf: function 3 -/
mutual
def laws_FnStageOf.j0 : Nat → List (S29) → List Int → Bool → Option (Bool)
 | 0, _, _, _ => none
 | k + 1, x3, x4, x27 => if x27 = true then ((spec_StageOf.f k x3).bind fun t269 => ((laws_equalInts.f k x4 t269).bind fun t272 => (some t272))) else (laws_FnStageOf.l0 k x3 x4 0)
def laws_FnStageOf.l0 : Nat → List (S29) → List Int → Int → Option (Bool)
 | 0, _, _, _ => none
 | k + 1, x3, x4, x5 => if x5 < (x3.length : Int) then (if 0 ≤ x5 then (if (((rd_T29 x3 x5).f1).length : Int) = 0 then (if x5 < (x4.length : Int) then (laws_FnStageOf.j2 k x3 x4 x5 ((rd x4 x5) == 0)) else (none)) else (laws_FnStageOf.j2 k x3 x4 x5 false)) else (none)) else (some true)
def laws_FnStageOf.j2 : Nat → List (S29) → List Int → Int → Bool → Option (Bool)
 | 0, _, _, _, _ => none
 | k + 1, x3, x4, x5, x6 => laws_FnStageOf.l1 k x3 x4 x5 x6 0
def laws_FnStageOf.l1 : Nat → List (S29) → List Int → Int → Bool → Int → Option (Bool)
 | 0, _, _, _, _, _ => none
 | k + 1, x3, x4, x5, x6, x7 => if 0 ≤ x5 then (if x5 < (x3.length : Int) then (if x7 < (((rd_T29 x3 x5).f1).length : Int) then (if 0 ≤ x7 then (if 0 ≤ (rd ((rd_T29 x3 x5).f1) x7) then (if (rd ((rd_T29 x3 x5).f1) x7) < (x4.length : Int) then (if x6 = true then (if x5 < (x4.length : Int) then (if (rd x4 (rd ((rd_T29 x3 x5).f1) x7)) ≥ (rd x4 x5) then (some false) else (laws_FnStageOf.l1 k x3 x4 x5 true (wrap64 (x7 + 1)))) else (none)) else (if x5 < (x4.length : Int) then (if (rd x4 (rd ((rd_T29 x3 x5).f1) x7)) ≥ (rd x4 x5) then (some false) else (laws_FnStageOf.l1 k x3 x4 x5 ((wrap64 ((rd x4 (rd ((rd_T29 x3 x5).f1) x7)) + 1)) == (rd x4 x5)) (wrap64 (x7 + 1)))) else (none))) else (none)) else (none)) else (none)) else (if x6 = true then (laws_FnStageOf.l0 k x3 x4 (wrap64 (x5 + 1))) else (some false))) else (none)) else (none)
end
def laws_FnStageOf.f (k : Nat) (l0 : List Int) : Option (Bool) := if (l0.length : Int) > 1048576 then (some true) else ((spec_DrawStageOf.f l0).bind fun t259 => ((impl_StageOf.f t259).bind fun t262 => ((spec_StageOf.f k t259).bind fun t265 => ((laws_equalInts.f k t262 t265).bind fun t268 => (if t268 = true then (laws_FnStageOf.j0 k t259 t262 ((t262.length : Int) != (t259.length : Int))) else (laws_FnStageOf.j0 k t259 t262 true))))))
set_option maxHeartbeats 8000000 in
set_option maxRecDepth 100000 in
theorem laws_FnStageOf.calls (k : Nat) (A0 : Option Addr) (c0 : Nat) (l0 : List Int) (r : Bool) (w : World) (hr0 : Kd.C (Kd.int .u8) w A0 l0.length l0) (hc0 : l0.length ≤ c0) (h : laws_FnStageOf.f k l0 = some r) (hT_ : Tab w) :
  Calls Tryd.prog 3 #[.slice A0 l0.length c0] w fun e w' => e = .returned (.bool r) ∧ Below w.heap.size w w' := by
 have HT_ := Aside0.mk hT_
 clear hT_
 have HR0 := Aside0.mk hr0
 have HC0 := Aside0.mk hc0
 clear hr0 hc0
 have HB := Aside0.mk (Below.refl w.heap.size w)
 have H : (if (l0.length : Int) > 1048576 then (some true) else ((spec_DrawStageOf.f l0).bind fun t259 => ((impl_StageOf.f t259).bind fun t262 => ((spec_StageOf.f k t259).bind fun t265 => ((laws_equalInts.f k t262 t265).bind fun t268 => (if t268 = true then (laws_FnStageOf.j0 k t259 t262 ((t262.length : Int) != (t259.length : Int))) else (laws_FnStageOf.j0 k t259 t262 true))))))) = some r := h
 clear h
 by_cases c2 : (l0.length : Int) > 1048576
 ·rw [if_pos c2] at H
  have c2b0 : decide (1048576 < (l0.length : Int)) = true := decide_eq_true c2
  have c2b1 : decide (1048576 < l0.length) = true := decide_eq_true (by omega)
  clear c2
  obtain rfl := Option.some.inj H
  go_enter Tryd.func3, Tryd.ntmps3
  go_wp2
  go_ret
  exact ⟨by first | rfl | (simp [errW_none, errW_some] <;> rfl) | (simp [*, errW_none, errW_some] <;> rfl), blw_⟩
 ·rw [if_neg c2] at H
  have c2b0 : decide (1048576 < (l0.length : Int)) = false := decide_eq_false c2
  have c2b1 : decide (1048576 < l0.length) = false := decide_eq_false (by omega)
  clear c2
  replace H := Option.bind_eq_some_iff.mp H
  obtain ⟨t259, A30, H⟩ := H
  replace H : ((impl_StageOf.f t259).bind fun t262 => ((spec_StageOf.f k t259).bind fun t265 => ((laws_equalInts.f k t262 t265).bind fun t268 => (if t268 = true then (laws_FnStageOf.j0 k t259 t262 ((t262.length : Int) != (t259.length : Int))) else (laws_FnStageOf.j0 k t259 t262 true))))) = some r := H
  have A3 := Aside0.mk A30
  clear A30
  replace H := Option.bind_eq_some_iff.mp H
  obtain ⟨t262, A40, H⟩ := H
  replace H : ((spec_StageOf.f k t259).bind fun t265 => ((laws_equalInts.f k t262 t265).bind fun t268 => (if t268 = true then (laws_FnStageOf.j0 k t259 t262 ((t262.length : Int) != (t259.length : Int))) else (laws_FnStageOf.j0 k t259 t262 true)))) = some r := H
  have A4 := Aside0.mk A40
  clear A40
  have HC5 := Aside0.mk H
  clear H
  go_enter Tryd.func3, Tryd.ntmps3
  go_upto_region 5 with (first | ((with_reducible refine gate_callee (f := 9) rfl ?_); refine goesC_ (some 13) Tryd.func9 #[.slice A0 l0.length c0] ?_; (with_reducible refine (spec_DrawStageOf.calls _ _ l0 t259 _ ?side1 ?side2 A3.out).mono ?_); (case side1 => exact cw_ HR0.out); (case side2 => exact HC0.out); rintro e w6 ⟨v260, rfl, ho0, hb⟩; refine ⟨_, rfl, ?_⟩; have n0_ := Aside0.mk (Kd.V_lower (Kd.V_mono (ok' := fun k_ => True) ho0 (fun k_ hk_ => trivial)) (below_size blw_)); have n1_ := Aside0.mk (below_step blw_ hb); clear HB; have HO261 := n0_; have HB := n1_; clear n0_ n1_; (try clear hb); (try clear hb2); (try clear hk); (try clear hi); (try clear ho0); obtain ⟨Ao7, co7, eo7⟩ := Kd.V_slice HO261.out; subst eo7) | ((with_reducible refine gate_callee (f := 10) rfl ?_); refine goesC_ (some 15) Tryd.func10 #[.slice Ao7 t259.length co7] ?_; (with_reducible refine (impl_StageOf.calls _ _ t259 t262 _ ?side1 ?side2 A4.out ?sideT).mono ?_); (case sideT => first | exact HT_.out.below blw_ HT_.out.pos | exact HT_.out); (case side1 => exact cw_ (Kd.V_reads' HO261.out).2.2); (case side2 => exact (Kd.V_reads' HO261.out).2.1); rintro e w8 ⟨v263, rfl, ho0, hb⟩; refine ⟨_, rfl, ?_⟩; have n0_ := Aside0.mk (Kd.V_elder' (by (with_reducible repeat (first | apply Kd.V_alloc | apply Kd.V_drewN | apply Kd.V_drew)); exact HO261.out) (Kd.R_base ho0) hb); have n1_ := Aside0.mk (Kd.R_lower ho0 (below_size blw_)); have n2_ := Aside0.mk (below_step blw_ hb); clear HO261; clear HB; have HO261 := n0_; have HO264 := n1_; have HB := n2_; clear n0_ n1_ n2_; (try clear hb); (try clear hb2); (try clear hk); (try clear hi); (try clear ho0)))
  (try simp only [Act.put, List.setIfInBounds_toArray, List.set_cons_zero, List.set_cons_succ])
  go_cut [27] (fun v27 wc => ∃ (kq : Nat) (x27_4 : Bool), v27 = .bool x27_4 ∧ Aside0 (laws_FnStageOf.j0 kq t259 t262 x27_4 = some r) ∧ Aside0 (kq ≤ k) ∧ Aside0 (Kd.V k29 29 wc w.heap.size (fun k_ => some k_ ≠ (v263 : Value).ownBlock) (.slice Ao7 t259.length co7) t259) ∧ Aside0 (Kd.R (Kd.int .i64) 3 wc w.heap.size (fun _ => True) v263 t262) ∧ Aside0 (Below w.heap.size w wc))
  case first =>
   have H := HC5.out
   clear HC5
   replace H := Option.bind_eq_some_iff.mp H
   obtain ⟨t265, A90, H⟩ := H
   replace H : ((laws_equalInts.f k t262 t265).bind fun t268 => (if t268 = true then (laws_FnStageOf.j0 k t259 t262 ((t262.length : Int) != (t259.length : Int))) else (laws_FnStageOf.j0 k t259 t262 true))) = some r := H
   have A9 := Aside0.mk A90
   clear A90
   replace H := Option.bind_eq_some_iff.mp H
   obtain ⟨t268, A100, H⟩ := H
   replace H : (if t268 = true then (laws_FnStageOf.j0 k t259 t262 ((t262.length : Int) != (t259.length : Int))) else (laws_FnStageOf.j0 k t259 t262 true)) = some r := H
   have A10 := Aside0.mk A100
   clear A100
   by_cases c11 : t268 = true
   ·subst c11
    have H1 : (laws_FnStageOf.j0 k t259 t262 ((t262.length : Int) != (t259.length : Int))) = some r := by rw [if_pos rfl] at H; exact H
    clear H
    have H := H1
    clear H1
    have H' := Aside0.mk H
    clear H
    go_wp2_with (first | ((with_reducible refine gate_callee (f := 12) rfl ?_); refine goesC_ (some 18) Tryd.func12 #[.slice Ao7 t259.length co7] ?_; (with_reducible refine (spec_StageOf.calls k _ _ t259 t265 _ ?side1 ?side2 A9.out).mono ?_); (case side1 => exact cw_ (Kd.V_reads' HO261.out).2.2); (case side2 => exact (Kd.V_reads' HO261.out).2.1); rintro e w12 ⟨v266, rfl, ho0, hb⟩; refine ⟨_, rfl, ?_⟩; have n0_ := Aside0.mk (Kd.V_elder' (by (with_reducible repeat (first | apply Kd.V_alloc | apply Kd.V_drewN | apply Kd.V_drew)); exact HO261.out) (Kd.R_base ho0) hb); have n1_ := Aside0.mk (Kd.R_elder' (by (with_reducible repeat (first | apply Kd.R_alloc | apply Kd.R_drewN | apply Kd.R_drew)); exact HO264.out) (Kd.R_base ho0) hb); have n2_ := Aside0.mk (Kd.R_lower (Kd.R_new' ho0 (Kd.R_lt (by (with_reducible repeat (first | apply Kd.R_alloc | apply Kd.R_drewN | apply Kd.R_drew)); exact HO264.out))) (below_size blw_)); have n3_ := Aside0.mk (below_step blw_ hb); clear HO261; clear HO264; clear HB; have HO261 := n0_; have HO264 := n1_; have HO267 := n2_; have HB := n3_; clear n0_ n1_ n2_ n3_; (try clear hb); (try clear hb2); (try clear hk); (try clear hi); (try clear ho0); obtain ⟨Ao13, co13, eo13⟩ := Kd.R_slice HO264.out; subst eo13; obtain ⟨Ao14, co14, eo14⟩ := Kd.R_slice HO267.out; subst eo14) | ((with_reducible refine gate_callee (f := 11) rfl ?_); refine goesC_ (some 19) Tryd.func11 #[.slice Ao13 t262.length co13, .slice Ao14 t265.length co14] ?_; (with_reducible refine (laws_equalInts.calls k _ _ t262 _ _ t265 true _ ?side1 ?side2 ?side3 ?side4 A10.out).mono ?_); (case side1 => exact cw_ (Kd.R_reads' HO264.out).2.2); (case side2 => exact (Kd.R_reads' HO264.out).2.1); (case side3 => exact cw_ (Kd.R_reads' HO267.out).2.2); (case side4 => exact (Kd.R_reads' HO267.out).2.1); rintro e w' ⟨rfl, ⟨nd, rfl⟩⟩; refine ⟨_, rfl, ?_⟩))
    go_meet
    case rel => exact ⟨_, (((t262.length : Int) != (t259.length : Int))), (by first | rfl | (simp; done) | (simp [*]; done)), H', ⟨by first | omega | exact Nat.le_refl _⟩, ⟨by (with_reducible repeat (first | apply Kd.V_alloc | apply Kd.V_drewN | apply Kd.V_drew)); exact Kd.V_mono HO261.out (fun _ hk => hk.1.2)⟩, ⟨by (with_reducible repeat (first | apply Kd.R_alloc | apply Kd.R_drewN | apply Kd.R_drew)); exact Kd.R_mono HO264.out (fun _ hk => trivial)⟩, ⟨blw_⟩⟩
   ·replace c11 := Bool.eq_false_iff.mpr c11
    subst c11
    have H1 : (laws_FnStageOf.j0 k t259 t262 true) = some r := by rw [if_neg (show ¬ (false = true) by decide)] at H; exact H
    clear H
    have H := H1
    clear H1
    have H' := Aside0.mk H
    clear H
    go_wp2_with (first | ((with_reducible refine gate_callee (f := 12) rfl ?_); refine goesC_ (some 18) Tryd.func12 #[.slice Ao7 t259.length co7] ?_; (with_reducible refine (spec_StageOf.calls k _ _ t259 t265 _ ?side1 ?side2 A9.out).mono ?_); (case side1 => exact cw_ (Kd.V_reads' HO261.out).2.2); (case side2 => exact (Kd.V_reads' HO261.out).2.1); rintro e w15 ⟨v266, rfl, ho0, hb⟩; refine ⟨_, rfl, ?_⟩; have n0_ := Aside0.mk (Kd.V_elder' (by (with_reducible repeat (first | apply Kd.V_alloc | apply Kd.V_drewN | apply Kd.V_drew)); exact HO261.out) (Kd.R_base ho0) hb); have n1_ := Aside0.mk (Kd.R_elder' (by (with_reducible repeat (first | apply Kd.R_alloc | apply Kd.R_drewN | apply Kd.R_drew)); exact HO264.out) (Kd.R_base ho0) hb); have n2_ := Aside0.mk (Kd.R_lower (Kd.R_new' ho0 (Kd.R_lt (by (with_reducible repeat (first | apply Kd.R_alloc | apply Kd.R_drewN | apply Kd.R_drew)); exact HO264.out))) (below_size blw_)); have n3_ := Aside0.mk (below_step blw_ hb); clear HO261; clear HO264; clear HB; have HO261 := n0_; have HO264 := n1_; have HO267 := n2_; have HB := n3_; clear n0_ n1_ n2_ n3_; (try clear hb); (try clear hb2); (try clear hk); (try clear hi); (try clear ho0); obtain ⟨Ao16, co16, eo16⟩ := Kd.R_slice HO264.out; subst eo16; obtain ⟨Ao17, co17, eo17⟩ := Kd.R_slice HO267.out; subst eo17) | ((with_reducible refine gate_callee (f := 11) rfl ?_); refine goesC_ (some 19) Tryd.func11 #[.slice Ao16 t262.length co16, .slice Ao17 t265.length co17] ?_; (with_reducible refine (laws_equalInts.calls k _ _ t262 _ _ t265 false _ ?side1 ?side2 ?side3 ?side4 A10.out).mono ?_); (case side1 => exact cw_ (Kd.R_reads' HO264.out).2.2); (case side2 => exact (Kd.R_reads' HO264.out).2.1); (case side3 => exact cw_ (Kd.R_reads' HO267.out).2.2); (case side4 => exact (Kd.R_reads' HO267.out).2.1); rintro e w' ⟨rfl, ⟨nd, rfl⟩⟩; refine ⟨_, rfl, ?_⟩))
    go_meet
    case rel => exact ⟨_, (true), (by first | rfl | (simp; done) | (simp [*]; done)), H', ⟨by first | omega | exact Nat.le_refl _⟩, ⟨by (with_reducible repeat (first | apply Kd.V_alloc | apply Kd.V_drewN | apply Kd.V_drew)); exact Kd.V_mono HO261.out (fun _ hk => hk.1.2)⟩, ⟨by (with_reducible repeat (first | apply Kd.R_alloc | apply Kd.R_drewN | apply Kd.R_drew)); exact Kd.R_mono HO264.out (fun _ hk => trivial)⟩, ⟨blw_⟩⟩
  case rest =>
   clear HC5
   try clear c1
   try clear c2
   try clear c2b0
   try clear c2b1
   try clear p2
   try clear c3
   try clear c9
   try clear c10
   try clear c11
   try clear c12
   obtain ⟨kq, x27_4, rfl, HA, HJ4, HO_3, HO_4, HB⟩ := hcut
   cases kq with
   | zero => exact absurd HA.out (by simp [laws_FnStageOf.j0])
   | succ kj4 =>
    have H := HA.out
    clear HA
    simp only [laws_FnStageOf.j0] at H
    by_cases c18 : x27_4 = true
    ·subst c18
     have H1 : ((spec_StageOf.f kj4 t259).bind fun t269 => ((laws_equalInts.f kj4 t262 t269).bind fun t272 => (some t272))) = some r := by rw [if_pos rfl] at H; exact H
     clear H
     have H := H1
     clear H1
     replace H := Option.bind_eq_some_iff.mp H
     obtain ⟨t269, A190, H⟩ := H
     replace H : ((laws_equalInts.f kj4 t262 t269).bind fun t272 => (some t272)) = some r := H
     have A19 := Aside0.mk A190
     clear A190
     replace H := Option.bind_eq_some_iff.mp H
     obtain ⟨t272, A200, H⟩ := H
     replace H : (some t272) = some r := H
     have A20 := Aside0.mk A200
     clear A200
     obtain rfl := Option.some.inj H
     go_wp2_with (first | ((with_reducible refine gate_callee (f := 12) rfl ?_); refine goesC_ (some 30) Tryd.func12 #[.slice Ao7 t259.length co7] ?_; (with_reducible refine (spec_StageOf.calls kj4 _ _ t259 t269 _ ?side1 ?side2 A19.out).mono ?_); (case side1 => exact cw_ (Kd.V_reads' HO_3.out).2.2); (case side2 => exact (Kd.V_reads' HO_3.out).2.1); rintro e w21 ⟨v270, rfl, ho0, hb⟩; refine ⟨_, rfl, ?_⟩; have n0_ := Aside0.mk (Kd.V_elder' (by (with_reducible repeat (first | apply Kd.V_alloc | apply Kd.V_drewN | apply Kd.V_drew)); exact HO_3.out) (Kd.R_base ho0) hb); have n1_ := Aside0.mk (Kd.R_elder' (by (with_reducible repeat (first | apply Kd.R_alloc | apply Kd.R_drewN | apply Kd.R_drew)); exact HO_4.out) (Kd.R_base ho0) hb); have n2_ := Aside0.mk (Kd.R_lower (Kd.R_new' ho0 (Kd.R_lt (by (with_reducible repeat (first | apply Kd.R_alloc | apply Kd.R_drewN | apply Kd.R_drew)); exact HO_4.out))) (below_size blw_)); have n3_ := Aside0.mk (below_step blw_ hb); clear HO_3; clear HO_4; clear HB; have HO_3 := n0_; have HO_4 := n1_; have HO271 := n2_; have HB := n3_; clear n0_ n1_ n2_ n3_; (try clear hb); (try clear hb2); (try clear hk); (try clear hi); (try clear ho0); obtain ⟨Ao22, co22, eo22⟩ := Kd.R_slice HO_4.out; subst eo22; obtain ⟨Ao23, co23, eo23⟩ := Kd.R_slice HO271.out; subst eo23) | ((with_reducible refine gate_callee (f := 11) rfl ?_); refine goesC_ (some 31) Tryd.func11 #[.slice Ao22 t262.length co22, .slice Ao23 t269.length co23] ?_; (with_reducible refine (laws_equalInts.calls kj4 _ _ t262 _ _ t269 t272 _ ?side1 ?side2 ?side3 ?side4 A20.out).mono ?_); (case side1 => exact cw_ (Kd.R_reads' HO_4.out).2.2); (case side2 => exact (Kd.R_reads' HO_4.out).2.1); (case side3 => exact cw_ (Kd.R_reads' HO271.out).2.2); (case side4 => exact (Kd.R_reads' HO271.out).2.1); rintro e w' ⟨rfl, ⟨nd, rfl⟩⟩; refine ⟨_, rfl, ?_⟩))
     go_ret
     exact ⟨by first | rfl | (simp [errW_none, errW_some] <;> rfl) | (simp [*, errW_none, errW_some] <;> rfl), blw_⟩
    ·replace c18 := Bool.eq_false_iff.mpr c18
     subst c18
     have H1 : (laws_FnStageOf.l0 kj4 t259 t262 0) = some r := by rw [if_neg (show ¬ (false = true) by decide)] at H; exact H
     clear H
     have H := H1
     clear H1
     have H' := Aside0.mk H
     clear H
     go_wp2
     go_loopg [5] kj4 (fun kq v5 w' => ∃ (x5_2 : Int), v5 = .int .i64 x5_2 ∧ Aside0 (laws_FnStageOf.l0 kq t259 t262 x5_2 = some r) ∧ Aside0 (kq ≤ kj4) ∧ Aside0 (Kd.V k29 29 w' w.heap.size (fun k_ => some k_ ≠ (v263 : Value).ownBlock) (.slice Ao7 t259.length co7) t259) ∧ Aside0 (Kd.R (Kd.int .i64) 3 w' w.heap.size (fun _ => True) v263 t262) ∧ Aside0 (Below w.heap.size w w'))
     case atStart => exact ⟨(0), (by first | rfl | (simp; done) | (simp [*]; done)), H', ⟨Nat.le_refl _⟩, ⟨by (with_reducible repeat (first | apply Kd.V_alloc | apply Kd.V_drewN | apply Kd.V_drew)); exact HO_3.out⟩, ⟨rw_ HO_4.out⟩, ⟨blw_⟩⟩
     case round =>
      clear H'
      try clear c1
      try clear c2
      try clear c2b0
      try clear c2b1
      try clear p2
      try clear c3
      try clear c9
      try clear c10
      try clear c11
      try clear c12
      try clear c18
      try clear p2
      obtain ⟨x5_2, rfl, HA, HK2, HO_3, HO_4, HB⟩ := hrel
      cases gk with
      | zero => exact absurd HA.out (by simp [laws_FnStageOf.l0])
      | succ k2 =>
       have H := HA.out
       clear HA
       simp only [laws_FnStageOf.l0] at H
       by_cases c24 : x5_2 < (t259.length : Int)
       ·rw [if_pos c24] at H
        have c24b0 : decide (x5_2 < (t259.length : Int)) = true := decide_eq_true c24
        clear c24
        have HC25 := Aside0.mk H
        clear H
        go_upto_region 10 with (fail)
        go_cut [6] (fun v6 wc => ∃ (kq : Nat) (x6_24 : Bool), v6 = .bool x6_24 ∧ Aside0 (laws_FnStageOf.j2 kq t259 t262 x5_2 x6_24 = some r) ∧ Aside0 (kq ≤ k2) ∧ Aside0 (Kd.V k29 29 wc w.heap.size (fun k_ => some k_ ≠ (v263 : Value).ownBlock) (.slice Ao7 t259.length co7) t259) ∧ Aside0 (Kd.R (Kd.int .i64) 3 wc w.heap.size (fun _ => True) v263 t262) ∧ Aside0 (Below w.heap.size w wc))
        case first =>
         have H := HC25.out
         clear HC25
         by_cases c26 : 0 ≤ x5_2
         ·rw [if_pos c26] at H
          have c26b0 : decide (0 ≤ x5_2) = true := decide_eq_true c26
          clear c26
          (first | rw [c26b0] | (simp only [i64_w, i32_w]; rw [c26b0]) | skip)
          by_cases c27 : (((rd_T29 t259 x5_2).f1).length : Int) = 0
          ·rw [if_pos c27] at H
           have c27b0 : ((((rd_T29 t259 x5_2).f1).length : Int) == 0) = true := beq_iff_eq.mpr c27
           have c27b1 : ((((rd_T29 t259 x5_2).f1).length : Int) != 0) = false := bne_eq_false_iff_eq.mpr c27
           clear c27
           by_cases c28 : x5_2 < (t262.length : Int)
           ·rw [if_pos c28] at H
            have c28b0 : decide (x5_2 < (t262.length : Int)) = true := decide_eq_true c28
            clear c28
            have H' := Aside0.mk H
            clear H
            have p273 : 0 ≤ (x5_2 : Int) := of_decide_eq_true (by first | (with_reducible assumption) | assumption)
            have q273 : x5_2 < (t259.length : Int) := of_decide_eq_true (by first | (with_reducible assumption) | assumption)
            obtain ⟨ad273, A273_1, c273_1, e273, hx273_0, hx273_1, hx273_2, hx273_3, hl273_1, hi273_1⟩ := at_T29 (Kd.V_reads' HO_3.out).2.2 x5_2 p273 q273
            cases e273
            obtain ⟨ce273, hce273, hMe273, hcc273⟩ := Kd.V_get HO_3.out z29 x5_2 p273 (by first | exact q273 | exact of_decide_eq_true (by first | (with_reducible assumption) | assumption) | (have e_ := (Kd.V_reads' HO_3.out).1; omega))
            obtain ⟨ua273_1, uc273_1, rfl, ul273_1, ge273_1⟩ := k29_openF hMe273
            have hv273_1 := hcc273 1 _ rfl
            rw [add_field _ _ 1 (by omega)] at hv273_1
            replace hv273_1 := Option.some.inj (hv273_1.symm.trans hx273_1)
            injection hv273_1 with hva_ hvn_ hvc_
            rw [hva_] at ge273_1
            rw [hvc_] at ul273_1
            have HL273_1 := Aside0.mk (show Kd.V (Kd.int .i64) 3 _ w.heap.size _ _ ((rd_T29 t259 x5_2).f1) from Kd.V_mk ul273_1 ge273_1)
            clear hva_ hvn_ hvc_ ge273_1 ul273_1
            clear hcc273 hce273
            have HR273_1 := Aside0.mk hi273_1
            have HC273_1 := Aside0.mk hl273_1
            clear hi273_1 hl273_1
            replace p273 := eq_true p273
            replace q273 := eq_true q273
            obtain ⟨Ao29, co29, eo29⟩ := Kd.R_slice HO_4.out
            subst eo29
            have p274 : 0 ≤ (x5_2 : Int) := of_decide_eq_true (by first | (with_reducible assumption) | assumption)
            have q274 : x5_2 < (t262.length : Int) := of_decide_eq_true (by first | (with_reducible assumption) | assumption)
            obtain ⟨ad274, e274, hx274_0⟩ := Kd.at_int (Kd.R_reads' HO_4.out).2.2 x5_2 p274 q274
            cases e274
            replace p274 := eq_true p274
            replace q274 := eq_true q274
            go_wp2
            go_meet
            case rel => exact ⟨_, (((rd t262 x5_2) == 0)), (by first | rfl | (simp; done) | (simp [*]; done)), H', ⟨by have := HJ4.out; have := HK2.out; first | omega | exact Nat.le_refl _⟩, ⟨by (with_reducible repeat (first | apply Kd.V_alloc | apply Kd.V_drewN | apply Kd.V_drew)); exact HO_3.out⟩, ⟨rw_ HO_4.out⟩, ⟨blw_⟩⟩
           ·rw [if_neg c28] at H
            exact absurd H (by simp)
          ·rw [if_neg c27] at H
           have c27b0 : ((((rd_T29 t259 x5_2).f1).length : Int) == 0) = false := beq_eq_false_iff_ne.mpr c27
           have c27b1 : ((((rd_T29 t259 x5_2).f1).length : Int) != 0) = true := bne_iff_ne.mpr c27
           have c27b2 : ¬ (((rd_T29 t259 x5_2).f1) = []) := fun h_ => c27 (by rw [h_]; rfl)
           have H' := Aside0.mk H
           clear H
           have p273 : 0 ≤ (x5_2 : Int) := of_decide_eq_true (by first | (with_reducible assumption) | assumption)
           have q273 : x5_2 < (t259.length : Int) := of_decide_eq_true (by first | (with_reducible assumption) | assumption)
           obtain ⟨ad273, A273_1, c273_1, e273, hx273_0, hx273_1, hx273_2, hx273_3, hl273_1, hi273_1⟩ := at_T29 (Kd.V_reads' HO_3.out).2.2 x5_2 p273 q273
           cases e273
           obtain ⟨ce273, hce273, hMe273, hcc273⟩ := Kd.V_get HO_3.out z29 x5_2 p273 (by first | exact q273 | exact of_decide_eq_true (by first | (with_reducible assumption) | assumption) | (have e_ := (Kd.V_reads' HO_3.out).1; omega))
           obtain ⟨ua273_1, uc273_1, rfl, ul273_1, ge273_1⟩ := k29_openF hMe273
           have hv273_1 := hcc273 1 _ rfl
           rw [add_field _ _ 1 (by omega)] at hv273_1
           replace hv273_1 := Option.some.inj (hv273_1.symm.trans hx273_1)
           injection hv273_1 with hva_ hvn_ hvc_
           rw [hva_] at ge273_1
           rw [hvc_] at ul273_1
           have HL273_1 := Aside0.mk (show Kd.V (Kd.int .i64) 3 _ w.heap.size _ _ ((rd_T29 t259 x5_2).f1) from Kd.V_mk ul273_1 ge273_1)
           clear hva_ hvn_ hvc_ ge273_1 ul273_1
           clear hcc273 hce273
           have HR273_1 := Aside0.mk hi273_1
           have HC273_1 := Aside0.mk hl273_1
           clear hi273_1 hl273_1
           replace p273 := eq_true p273
           replace q273 := eq_true q273
           go_wp2
           go_meet
           case rel => exact ⟨_, (false), (by first | rfl | (simp; done) | (simp [*]; done)), H', ⟨by have := HJ4.out; have := HK2.out; first | omega | exact Nat.le_refl _⟩, ⟨by (with_reducible repeat (first | apply Kd.V_alloc | apply Kd.V_drewN | apply Kd.V_drew)); exact HO_3.out⟩, ⟨rw_ HO_4.out⟩, ⟨blw_⟩⟩
         ·rw [if_neg c26] at H
          exact absurd H (by simp)
        case rest =>
         clear HC25
         try clear c1
         try clear c2
         try clear c2b0
         try clear c2b1
         try clear p2
         try clear q2
         try clear hx2
         try clear c3
         try clear c9
         try clear c10
         try clear c11
         try clear c12
         try clear c18
         try clear c24
         try clear c24b0
         try clear c26
         try clear c26b0
         try clear c27
         try clear c27b0
         try clear c27b1
         try clear c27b2
         try clear p27
         try clear q27
         try clear hx27
         try clear c28
         try clear c28b0
         try clear hx273_0
         try clear hx273_1
         try clear hx273_2
         try clear hx273_3
         try clear hx274_0
         try clear p2
         try clear p273
         try clear p274
         try clear q273
         try clear q274
         obtain ⟨kq, x6_24, rfl, HA, HJ24, HO_3, HO_4, HB⟩ := hcut
         cases kq with
         | zero => exact absurd HA.out (by simp [laws_FnStageOf.j2])
         | succ kj24 =>
          have H := HA.out
          clear HA
          simp only [laws_FnStageOf.j2] at H
          have H' := Aside0.mk H
          clear H
          go_wp2
          go_loopg [6, 7] kj24 (fun kq v6 v7 w' => ∃ (x6_4 : Bool) (x7_4 : Int), v6 = .bool x6_4 ∧ v7 = .int .i64 x7_4 ∧ Aside0 (laws_FnStageOf.l1 kq t259 t262 x5_2 x6_4 x7_4 = some r) ∧ Aside0 (kq ≤ kj24) ∧ Aside0 (Kd.V k29 29 w' w.heap.size (fun k_ => some k_ ≠ (v263 : Value).ownBlock) (.slice Ao7 t259.length co7) t259) ∧ Aside0 (Kd.R (Kd.int .i64) 3 w' w.heap.size (fun _ => True) v263 t262) ∧ Aside0 (Below w.heap.size w w'))
          case atStart => exact ⟨(x6_24), (0), (by first | rfl | (simp; done) | (simp [*]; done)), (by first | rfl | (simp; done) | (simp [*]; done)), H', ⟨Nat.le_refl _⟩, ⟨by (with_reducible repeat (first | apply Kd.V_alloc | apply Kd.V_drewN | apply Kd.V_drew)); exact HO_3.out⟩, ⟨rw_ HO_4.out⟩, ⟨blw_⟩⟩
          case round =>
           clear H'
           try clear c1
           try clear c2
           try clear c2b0
           try clear c2b1
           try clear p2
           try clear q2
           try clear hx2
           try clear c3
           try clear c9
           try clear c10
           try clear c11
           try clear c12
           try clear c18
           try clear c24
           try clear c24b0
           try clear c26
           try clear c26b0
           try clear c27
           try clear c27b0
           try clear c27b1
           try clear c27b2
           try clear p27
           try clear q27
           try clear hx27
           try clear c28
           try clear c28b0
           try clear hx273_0
           try clear hx273_1
           try clear hx273_2
           try clear hx273_3
           try clear hx274_0
           try clear p2
           try clear p27
           try clear p273
           try clear p274
           try clear q2
           try clear q27
           try clear q273
           try clear q274
           obtain ⟨x6_4, x7_4, rfl, rfl, HA, HK4, HO_3, HO_4, HB⟩ := hrel
           cases gk with
           | zero => exact absurd HA.out (by simp [laws_FnStageOf.l1])
           | succ k4 =>
            have H := HA.out
            clear HA
            simp only [laws_FnStageOf.l1] at H
            by_cases c30 : 0 ≤ x5_2
            ·rw [if_pos c30] at H
             have c30b0 : decide (0 ≤ x5_2) = true := decide_eq_true c30
             clear c30
             by_cases c31 : x5_2 < (t259.length : Int)
             ·rw [if_pos c31] at H
              have c31b0 : decide (x5_2 < (t259.length : Int)) = true := decide_eq_true c31
              clear c31
              by_cases c32 : x7_4 < (((rd_T29 t259 x5_2).f1).length : Int)
              ·rw [if_pos c32] at H
               have c32b0 : decide (x7_4 < (((rd_T29 t259 x5_2).f1).length : Int)) = true := decide_eq_true c32
               clear c32
               by_cases c33 : 0 ≤ x7_4
               ·rw [if_pos c33] at H
                have c33b0 : decide (0 ≤ x7_4) = true := decide_eq_true c33
                clear c33
                by_cases c34 : 0 ≤ (rd ((rd_T29 t259 x5_2).f1) x7_4)
                ·rw [if_pos c34] at H
                 have c34b0 : decide (0 ≤ (rd ((rd_T29 t259 x5_2).f1) x7_4)) = true := decide_eq_true c34
                 clear c34
                 by_cases c35 : (rd ((rd_T29 t259 x5_2).f1) x7_4) < (t262.length : Int)
                 ·rw [if_pos c35] at H
                  have c35b0 : decide ((rd ((rd_T29 t259 x5_2).f1) x7_4) < (t262.length : Int)) = true := decide_eq_true c35
                  clear c35
                  by_cases c36 : x6_4 = true
                  ·subst c36
                   have H1 : (if x5_2 < (t262.length : Int) then (if (rd t262 (rd ((rd_T29 t259 x5_2).f1) x7_4)) ≥ (rd t262 x5_2) then (some false) else (laws_FnStageOf.l1 k4 t259 t262 x5_2 true (wrap64 (x7_4 + 1)))) else (none)) = some r := by rw [if_pos rfl] at H; exact H
                   clear H
                   have H := H1
                   clear H1
                   by_cases c37 : x5_2 < (t262.length : Int)
                   ·rw [if_pos c37] at H
                    have c37b0 : decide (x5_2 < (t262.length : Int)) = true := decide_eq_true c37
                    clear c37
                    by_cases c38 : (rd t262 (rd ((rd_T29 t259 x5_2).f1) x7_4)) ≥ (rd t262 x5_2)
                    ·rw [if_pos c38] at H
                     have c38b0 : decide ((rd t262 x5_2) ≤ (rd t262 (rd ((rd_T29 t259 x5_2).f1) x7_4))) = true := decide_eq_true c38
                     clear c38
                     obtain rfl := Option.some.inj H
                     have p275 : 0 ≤ (x5_2 : Int) := of_decide_eq_true (by first | (with_reducible assumption) | assumption)
                     have q275 : x5_2 < (t259.length : Int) := of_decide_eq_true (by first | (with_reducible assumption) | assumption)
                     obtain ⟨ad275, A275_1, c275_1, e275, hx275_0, hx275_1, hx275_2, hx275_3, hl275_1, hi275_1⟩ := at_T29 (Kd.V_reads' HO_3.out).2.2 x5_2 p275 q275
                     cases e275
                     obtain ⟨ce275, hce275, hMe275, hcc275⟩ := Kd.V_get HO_3.out z29 x5_2 p275 (by first | exact q275 | exact of_decide_eq_true (by first | (with_reducible assumption) | assumption) | (have e_ := (Kd.V_reads' HO_3.out).1; omega))
                     obtain ⟨ua275_1, uc275_1, rfl, ul275_1, ge275_1⟩ := k29_openF hMe275
                     have hv275_1 := hcc275 1 _ rfl
                     rw [add_field _ _ 1 (by omega)] at hv275_1
                     replace hv275_1 := Option.some.inj (hv275_1.symm.trans hx275_1)
                     injection hv275_1 with hva_ hvn_ hvc_
                     rw [hva_] at ge275_1
                     rw [hvc_] at ul275_1
                     have HL275_1 := Aside0.mk (show Kd.V (Kd.int .i64) 3 _ w.heap.size _ _ ((rd_T29 t259 x5_2).f1) from Kd.V_mk ul275_1 ge275_1)
                     clear hva_ hvn_ hvc_ ge275_1 ul275_1
                     clear hcc275 hce275
                     have HR275_1 := Aside0.mk hi275_1
                     have HC275_1 := Aside0.mk hl275_1
                     clear hi275_1 hl275_1
                     replace p275 := eq_true p275
                     replace q275 := eq_true q275
                     have p276 : 0 ≤ (x5_2 : Int) := of_decide_eq_true (by first | (with_reducible assumption) | assumption)
                     have q276 : x5_2 < (t259.length : Int) := of_decide_eq_true (by first | (with_reducible assumption) | assumption)
                     obtain ⟨ad276, A276_1, c276_1, e276, hx276_0, hx276_1, hx276_2, hx276_3, hl276_1, hi276_1⟩ := at_T29 (Kd.V_reads' HO_3.out).2.2 x5_2 p276 q276
                     obtain rfl : ad275 = ad276 := (by injection e276)
                     obtain ⟨ce276, hce276, hMe276, hcc276⟩ := Kd.V_get HO_3.out z29 x5_2 p276 (by first | exact q276 | exact of_decide_eq_true (by first | (with_reducible assumption) | assumption) | (have e_ := (Kd.V_reads' HO_3.out).1; omega))
                     obtain ⟨ua276_1, uc276_1, rfl, ul276_1, ge276_1⟩ := k29_openF hMe276
                     have hv276_1 := hcc276 1 _ rfl
                     rw [add_field _ _ 1 (by omega)] at hv276_1
                     replace hv276_1 := Option.some.inj (hv276_1.symm.trans hx276_1)
                     injection hv276_1 with hva_ hvn_ hvc_
                     rw [hva_] at ge276_1
                     rw [hvc_] at ul276_1
                     have HL276_1 := Aside0.mk (show Kd.V (Kd.int .i64) 3 _ w.heap.size _ _ ((rd_T29 t259 x5_2).f1) from Kd.V_mk ul276_1 ge276_1)
                     clear hva_ hvn_ hvc_ ge276_1 ul276_1
                     clear hcc276 hce276
                     have HR276_1 := Aside0.mk hi276_1
                     have HC276_1 := Aside0.mk hl276_1
                     clear hi276_1 hl276_1
                     replace p276 := eq_true p276
                     replace q276 := eq_true q276
                     have ea_ := Option.some.inj (hx275_1.symm.trans hx276_1)
                     injection ea_ with ea_ en_ ec_
                     subst ea_
                     subst ec_
                     clear en_
                     have p277 : 0 ≤ (x7_4 : Int) := of_decide_eq_true (by first | (with_reducible assumption) | assumption)
                     have q277 : x7_4 < (((rd_T29 t259 x5_2).f1).length : Int) := of_decide_eq_true (by first | (with_reducible assumption) | assumption)
                     obtain ⟨ad277, e277, hx277_0⟩ := Kd.at_int (by repeat (first | (with_reducible exact HR276_1.out) | (with_reducible refine Kd.C_alloc ?_ _) | (with_reducible refine Kd.C_drewN ?_ _) | (with_reducible refine Kd.C_drew ?_) | exact HR276_1.out)) x7_4 p277 q277
                     cases e277
                     replace p277 := eq_true p277
                     replace q277 := eq_true q277
                     obtain ⟨Ao39, co39, eo39⟩ := Kd.R_slice HO_4.out
                     subst eo39
                     have p278 : 0 ≤ ((rd ((rd_T29 t259 x5_2).f1) x7_4) : Int) := of_decide_eq_true (by first | (with_reducible assumption) | assumption)
                     have q278 : (rd ((rd_T29 t259 x5_2).f1) x7_4) < (t262.length : Int) := of_decide_eq_true (by first | (with_reducible assumption) | assumption)
                     obtain ⟨ad278, e278, hx278_0⟩ := Kd.at_int (Kd.R_reads' HO_4.out).2.2 (rd ((rd_T29 t259 x5_2).f1) x7_4) p278 q278
                     cases e278
                     replace p278 := eq_true p278
                     replace q278 := eq_true q278
                     have p279 : 0 ≤ (x5_2 : Int) := of_decide_eq_true (by first | (with_reducible assumption) | assumption)
                     have q279 : x5_2 < (t262.length : Int) := of_decide_eq_true (by first | (with_reducible assumption) | assumption)
                     obtain ⟨ad279, e279, hx279_0⟩ := Kd.at_int (Kd.R_reads' HO_4.out).2.2 x5_2 p279 q279
                     obtain rfl : ad278 = ad279 := (by injection e279)
                     replace p279 := eq_true p279
                     replace q279 := eq_true q279
                     go_wp2
                     go_ret
                     exact ⟨by first | rfl | (simp [errW_none, errW_some] <;> rfl) | (simp [*, errW_none, errW_some] <;> rfl), blw_⟩
                    ·rw [if_neg c38] at H
                     have c38b0 : decide ((rd t262 x5_2) ≤ (rd t262 (rd ((rd_T29 t259 x5_2).f1) x7_4))) = false := decide_eq_false c38
                     clear c38
                     have H' := Aside0.mk H
                     clear H
                     have p275 : 0 ≤ (x5_2 : Int) := of_decide_eq_true (by first | (with_reducible assumption) | assumption)
                     have q275 : x5_2 < (t259.length : Int) := of_decide_eq_true (by first | (with_reducible assumption) | assumption)
                     obtain ⟨ad275, A275_1, c275_1, e275, hx275_0, hx275_1, hx275_2, hx275_3, hl275_1, hi275_1⟩ := at_T29 (Kd.V_reads' HO_3.out).2.2 x5_2 p275 q275
                     cases e275
                     obtain ⟨ce275, hce275, hMe275, hcc275⟩ := Kd.V_get HO_3.out z29 x5_2 p275 (by first | exact q275 | exact of_decide_eq_true (by first | (with_reducible assumption) | assumption) | (have e_ := (Kd.V_reads' HO_3.out).1; omega))
                     obtain ⟨ua275_1, uc275_1, rfl, ul275_1, ge275_1⟩ := k29_openF hMe275
                     have hv275_1 := hcc275 1 _ rfl
                     rw [add_field _ _ 1 (by omega)] at hv275_1
                     replace hv275_1 := Option.some.inj (hv275_1.symm.trans hx275_1)
                     injection hv275_1 with hva_ hvn_ hvc_
                     rw [hva_] at ge275_1
                     rw [hvc_] at ul275_1
                     have HL275_1 := Aside0.mk (show Kd.V (Kd.int .i64) 3 _ w.heap.size _ _ ((rd_T29 t259 x5_2).f1) from Kd.V_mk ul275_1 ge275_1)
                     clear hva_ hvn_ hvc_ ge275_1 ul275_1
                     clear hcc275 hce275
                     have HR275_1 := Aside0.mk hi275_1
                     have HC275_1 := Aside0.mk hl275_1
                     clear hi275_1 hl275_1
                     replace p275 := eq_true p275
                     replace q275 := eq_true q275
                     have p276 : 0 ≤ (x5_2 : Int) := of_decide_eq_true (by first | (with_reducible assumption) | assumption)
                     have q276 : x5_2 < (t259.length : Int) := of_decide_eq_true (by first | (with_reducible assumption) | assumption)
                     obtain ⟨ad276, A276_1, c276_1, e276, hx276_0, hx276_1, hx276_2, hx276_3, hl276_1, hi276_1⟩ := at_T29 (Kd.V_reads' HO_3.out).2.2 x5_2 p276 q276
                     obtain rfl : ad275 = ad276 := (by injection e276)
                     obtain ⟨ce276, hce276, hMe276, hcc276⟩ := Kd.V_get HO_3.out z29 x5_2 p276 (by first | exact q276 | exact of_decide_eq_true (by first | (with_reducible assumption) | assumption) | (have e_ := (Kd.V_reads' HO_3.out).1; omega))
                     obtain ⟨ua276_1, uc276_1, rfl, ul276_1, ge276_1⟩ := k29_openF hMe276
                     have hv276_1 := hcc276 1 _ rfl
                     rw [add_field _ _ 1 (by omega)] at hv276_1
                     replace hv276_1 := Option.some.inj (hv276_1.symm.trans hx276_1)
                     injection hv276_1 with hva_ hvn_ hvc_
                     rw [hva_] at ge276_1
                     rw [hvc_] at ul276_1
                     have HL276_1 := Aside0.mk (show Kd.V (Kd.int .i64) 3 _ w.heap.size _ _ ((rd_T29 t259 x5_2).f1) from Kd.V_mk ul276_1 ge276_1)
                     clear hva_ hvn_ hvc_ ge276_1 ul276_1
                     clear hcc276 hce276
                     have HR276_1 := Aside0.mk hi276_1
                     have HC276_1 := Aside0.mk hl276_1
                     clear hi276_1 hl276_1
                     replace p276 := eq_true p276
                     replace q276 := eq_true q276
                     have ea_ := Option.some.inj (hx275_1.symm.trans hx276_1)
                     injection ea_ with ea_ en_ ec_
                     subst ea_
                     subst ec_
                     clear en_
                     have p277 : 0 ≤ (x7_4 : Int) := of_decide_eq_true (by first | (with_reducible assumption) | assumption)
                     have q277 : x7_4 < (((rd_T29 t259 x5_2).f1).length : Int) := of_decide_eq_true (by first | (with_reducible assumption) | assumption)
                     obtain ⟨ad277, e277, hx277_0⟩ := Kd.at_int (by repeat (first | (with_reducible exact HR276_1.out) | (with_reducible refine Kd.C_alloc ?_ _) | (with_reducible refine Kd.C_drewN ?_ _) | (with_reducible refine Kd.C_drew ?_) | exact HR276_1.out)) x7_4 p277 q277
                     cases e277
                     replace p277 := eq_true p277
                     replace q277 := eq_true q277
                     obtain ⟨Ao40, co40, eo40⟩ := Kd.R_slice HO_4.out
                     subst eo40
                     have p278 : 0 ≤ ((rd ((rd_T29 t259 x5_2).f1) x7_4) : Int) := of_decide_eq_true (by first | (with_reducible assumption) | assumption)
                     have q278 : (rd ((rd_T29 t259 x5_2).f1) x7_4) < (t262.length : Int) := of_decide_eq_true (by first | (with_reducible assumption) | assumption)
                     obtain ⟨ad278, e278, hx278_0⟩ := Kd.at_int (Kd.R_reads' HO_4.out).2.2 (rd ((rd_T29 t259 x5_2).f1) x7_4) p278 q278
                     cases e278
                     replace p278 := eq_true p278
                     replace q278 := eq_true q278
                     have p279 : 0 ≤ (x5_2 : Int) := of_decide_eq_true (by first | (with_reducible assumption) | assumption)
                     have q279 : x5_2 < (t262.length : Int) := of_decide_eq_true (by first | (with_reducible assumption) | assumption)
                     obtain ⟨ad279, e279, hx279_0⟩ := Kd.at_int (Kd.R_reads' HO_4.out).2.2 x5_2 p279 q279
                     obtain rfl : ad278 = ad279 := (by injection e279)
                     replace p279 := eq_true p279
                     replace q279 := eq_true q279
                     go_wp2
                     go_roundg k4
                     case measure => have := HJ4.out; have := HK2.out; have := HJ24.out; have := HK4.out; omega
                     case rel => exact ⟨(true), (wrap64 (x7_4 + 1)), (by first | rfl | (simp; done) | (simp [*]; done)), (by first | rfl | (simp; done) | (simp [*]; done)), H', ⟨by have := HJ4.out; have := HK2.out; have := HJ24.out; have := HK4.out; omega⟩, ⟨by (with_reducible repeat (first | apply Kd.V_alloc | apply Kd.V_drewN | apply Kd.V_drew)); exact HO_3.out⟩, ⟨rw_ HO_4.out⟩, ⟨blw_⟩⟩
                   ·rw [if_neg c37] at H
                    exact absurd H (by simp)
                  ·replace c36 := Bool.eq_false_iff.mpr c36
                   subst c36
                   have H1 : (if x5_2 < (t262.length : Int) then (if (rd t262 (rd ((rd_T29 t259 x5_2).f1) x7_4)) ≥ (rd t262 x5_2) then (some false) else (laws_FnStageOf.l1 k4 t259 t262 x5_2 ((wrap64 ((rd t262 (rd ((rd_T29 t259 x5_2).f1) x7_4)) + 1)) == (rd t262 x5_2)) (wrap64 (x7_4 + 1)))) else (none)) = some r := by rw [if_neg (show ¬ (false = true) by decide)] at H; exact H
                   clear H
                   have H := H1
                   clear H1
                   by_cases c41 : x5_2 < (t262.length : Int)
                   ·rw [if_pos c41] at H
                    have c41b0 : decide (x5_2 < (t262.length : Int)) = true := decide_eq_true c41
                    clear c41
                    by_cases c42 : (rd t262 (rd ((rd_T29 t259 x5_2).f1) x7_4)) ≥ (rd t262 x5_2)
                    ·rw [if_pos c42] at H
                     have c42b0 : decide ((rd t262 x5_2) ≤ (rd t262 (rd ((rd_T29 t259 x5_2).f1) x7_4))) = true := decide_eq_true c42
                     clear c42
                     obtain rfl := Option.some.inj H
                     have p275 : 0 ≤ (x5_2 : Int) := of_decide_eq_true (by first | (with_reducible assumption) | assumption)
                     have q275 : x5_2 < (t259.length : Int) := of_decide_eq_true (by first | (with_reducible assumption) | assumption)
                     obtain ⟨ad275, A275_1, c275_1, e275, hx275_0, hx275_1, hx275_2, hx275_3, hl275_1, hi275_1⟩ := at_T29 (Kd.V_reads' HO_3.out).2.2 x5_2 p275 q275
                     cases e275
                     obtain ⟨ce275, hce275, hMe275, hcc275⟩ := Kd.V_get HO_3.out z29 x5_2 p275 (by first | exact q275 | exact of_decide_eq_true (by first | (with_reducible assumption) | assumption) | (have e_ := (Kd.V_reads' HO_3.out).1; omega))
                     obtain ⟨ua275_1, uc275_1, rfl, ul275_1, ge275_1⟩ := k29_openF hMe275
                     have hv275_1 := hcc275 1 _ rfl
                     rw [add_field _ _ 1 (by omega)] at hv275_1
                     replace hv275_1 := Option.some.inj (hv275_1.symm.trans hx275_1)
                     injection hv275_1 with hva_ hvn_ hvc_
                     rw [hva_] at ge275_1
                     rw [hvc_] at ul275_1
                     have HL275_1 := Aside0.mk (show Kd.V (Kd.int .i64) 3 _ w.heap.size _ _ ((rd_T29 t259 x5_2).f1) from Kd.V_mk ul275_1 ge275_1)
                     clear hva_ hvn_ hvc_ ge275_1 ul275_1
                     clear hcc275 hce275
                     have HR275_1 := Aside0.mk hi275_1
                     have HC275_1 := Aside0.mk hl275_1
                     clear hi275_1 hl275_1
                     replace p275 := eq_true p275
                     replace q275 := eq_true q275
                     have p276 : 0 ≤ (x5_2 : Int) := of_decide_eq_true (by first | (with_reducible assumption) | assumption)
                     have q276 : x5_2 < (t259.length : Int) := of_decide_eq_true (by first | (with_reducible assumption) | assumption)
                     obtain ⟨ad276, A276_1, c276_1, e276, hx276_0, hx276_1, hx276_2, hx276_3, hl276_1, hi276_1⟩ := at_T29 (Kd.V_reads' HO_3.out).2.2 x5_2 p276 q276
                     obtain rfl : ad275 = ad276 := (by injection e276)
                     obtain ⟨ce276, hce276, hMe276, hcc276⟩ := Kd.V_get HO_3.out z29 x5_2 p276 (by first | exact q276 | exact of_decide_eq_true (by first | (with_reducible assumption) | assumption) | (have e_ := (Kd.V_reads' HO_3.out).1; omega))
                     obtain ⟨ua276_1, uc276_1, rfl, ul276_1, ge276_1⟩ := k29_openF hMe276
                     have hv276_1 := hcc276 1 _ rfl
                     rw [add_field _ _ 1 (by omega)] at hv276_1
                     replace hv276_1 := Option.some.inj (hv276_1.symm.trans hx276_1)
                     injection hv276_1 with hva_ hvn_ hvc_
                     rw [hva_] at ge276_1
                     rw [hvc_] at ul276_1
                     have HL276_1 := Aside0.mk (show Kd.V (Kd.int .i64) 3 _ w.heap.size _ _ ((rd_T29 t259 x5_2).f1) from Kd.V_mk ul276_1 ge276_1)
                     clear hva_ hvn_ hvc_ ge276_1 ul276_1
                     clear hcc276 hce276
                     have HR276_1 := Aside0.mk hi276_1
                     have HC276_1 := Aside0.mk hl276_1
                     clear hi276_1 hl276_1
                     replace p276 := eq_true p276
                     replace q276 := eq_true q276
                     have ea_ := Option.some.inj (hx275_1.symm.trans hx276_1)
                     injection ea_ with ea_ en_ ec_
                     subst ea_
                     subst ec_
                     clear en_
                     have p277 : 0 ≤ (x7_4 : Int) := of_decide_eq_true (by first | (with_reducible assumption) | assumption)
                     have q277 : x7_4 < (((rd_T29 t259 x5_2).f1).length : Int) := of_decide_eq_true (by first | (with_reducible assumption) | assumption)
                     obtain ⟨ad277, e277, hx277_0⟩ := Kd.at_int (by repeat (first | (with_reducible exact HR276_1.out) | (with_reducible refine Kd.C_alloc ?_ _) | (with_reducible refine Kd.C_drewN ?_ _) | (with_reducible refine Kd.C_drew ?_) | exact HR276_1.out)) x7_4 p277 q277
                     cases e277
                     replace p277 := eq_true p277
                     replace q277 := eq_true q277
                     obtain ⟨Ao43, co43, eo43⟩ := Kd.R_slice HO_4.out
                     subst eo43
                     have p278 : 0 ≤ ((rd ((rd_T29 t259 x5_2).f1) x7_4) : Int) := of_decide_eq_true (by first | (with_reducible assumption) | assumption)
                     have q278 : (rd ((rd_T29 t259 x5_2).f1) x7_4) < (t262.length : Int) := of_decide_eq_true (by first | (with_reducible assumption) | assumption)
                     obtain ⟨ad278, e278, hx278_0⟩ := Kd.at_int (Kd.R_reads' HO_4.out).2.2 (rd ((rd_T29 t259 x5_2).f1) x7_4) p278 q278
                     cases e278
                     replace p278 := eq_true p278
                     replace q278 := eq_true q278
                     have p280 : 0 ≤ (x5_2 : Int) := of_decide_eq_true (by first | (with_reducible assumption) | assumption)
                     have q280 : x5_2 < (t262.length : Int) := of_decide_eq_true (by first | (with_reducible assumption) | assumption)
                     obtain ⟨ad280, e280, hx280_0⟩ := Kd.at_int (Kd.R_reads' HO_4.out).2.2 x5_2 p280 q280
                     obtain rfl : ad278 = ad280 := (by injection e280)
                     replace p280 := eq_true p280
                     replace q280 := eq_true q280
                     have p281 : 0 ≤ (x5_2 : Int) := of_decide_eq_true (by first | (with_reducible assumption) | assumption)
                     have q281 : x5_2 < (t262.length : Int) := of_decide_eq_true (by first | (with_reducible assumption) | assumption)
                     obtain ⟨ad281, e281, hx281_0⟩ := Kd.at_int (Kd.R_reads' HO_4.out).2.2 x5_2 p281 q281
                     obtain rfl : ad278 = ad281 := (by injection e281)
                     replace p281 := eq_true p281
                     replace q281 := eq_true q281
                     go_wp2
                     go_ret
                     exact ⟨by first | rfl | (simp [errW_none, errW_some] <;> rfl) | (simp [*, errW_none, errW_some] <;> rfl), blw_⟩
                    ·rw [if_neg c42] at H
                     have c42b0 : decide ((rd t262 x5_2) ≤ (rd t262 (rd ((rd_T29 t259 x5_2).f1) x7_4))) = false := decide_eq_false c42
                     clear c42
                     have H' := Aside0.mk H
                     clear H
                     have p275 : 0 ≤ (x5_2 : Int) := of_decide_eq_true (by first | (with_reducible assumption) | assumption)
                     have q275 : x5_2 < (t259.length : Int) := of_decide_eq_true (by first | (with_reducible assumption) | assumption)
                     obtain ⟨ad275, A275_1, c275_1, e275, hx275_0, hx275_1, hx275_2, hx275_3, hl275_1, hi275_1⟩ := at_T29 (Kd.V_reads' HO_3.out).2.2 x5_2 p275 q275
                     cases e275
                     obtain ⟨ce275, hce275, hMe275, hcc275⟩ := Kd.V_get HO_3.out z29 x5_2 p275 (by first | exact q275 | exact of_decide_eq_true (by first | (with_reducible assumption) | assumption) | (have e_ := (Kd.V_reads' HO_3.out).1; omega))
                     obtain ⟨ua275_1, uc275_1, rfl, ul275_1, ge275_1⟩ := k29_openF hMe275
                     have hv275_1 := hcc275 1 _ rfl
                     rw [add_field _ _ 1 (by omega)] at hv275_1
                     replace hv275_1 := Option.some.inj (hv275_1.symm.trans hx275_1)
                     injection hv275_1 with hva_ hvn_ hvc_
                     rw [hva_] at ge275_1
                     rw [hvc_] at ul275_1
                     have HL275_1 := Aside0.mk (show Kd.V (Kd.int .i64) 3 _ w.heap.size _ _ ((rd_T29 t259 x5_2).f1) from Kd.V_mk ul275_1 ge275_1)
                     clear hva_ hvn_ hvc_ ge275_1 ul275_1
                     clear hcc275 hce275
                     have HR275_1 := Aside0.mk hi275_1
                     have HC275_1 := Aside0.mk hl275_1
                     clear hi275_1 hl275_1
                     replace p275 := eq_true p275
                     replace q275 := eq_true q275
                     have p276 : 0 ≤ (x5_2 : Int) := of_decide_eq_true (by first | (with_reducible assumption) | assumption)
                     have q276 : x5_2 < (t259.length : Int) := of_decide_eq_true (by first | (with_reducible assumption) | assumption)
                     obtain ⟨ad276, A276_1, c276_1, e276, hx276_0, hx276_1, hx276_2, hx276_3, hl276_1, hi276_1⟩ := at_T29 (Kd.V_reads' HO_3.out).2.2 x5_2 p276 q276
                     obtain rfl : ad275 = ad276 := (by injection e276)
                     obtain ⟨ce276, hce276, hMe276, hcc276⟩ := Kd.V_get HO_3.out z29 x5_2 p276 (by first | exact q276 | exact of_decide_eq_true (by first | (with_reducible assumption) | assumption) | (have e_ := (Kd.V_reads' HO_3.out).1; omega))
                     obtain ⟨ua276_1, uc276_1, rfl, ul276_1, ge276_1⟩ := k29_openF hMe276
                     have hv276_1 := hcc276 1 _ rfl
                     rw [add_field _ _ 1 (by omega)] at hv276_1
                     replace hv276_1 := Option.some.inj (hv276_1.symm.trans hx276_1)
                     injection hv276_1 with hva_ hvn_ hvc_
                     rw [hva_] at ge276_1
                     rw [hvc_] at ul276_1
                     have HL276_1 := Aside0.mk (show Kd.V (Kd.int .i64) 3 _ w.heap.size _ _ ((rd_T29 t259 x5_2).f1) from Kd.V_mk ul276_1 ge276_1)
                     clear hva_ hvn_ hvc_ ge276_1 ul276_1
                     clear hcc276 hce276
                     have HR276_1 := Aside0.mk hi276_1
                     have HC276_1 := Aside0.mk hl276_1
                     clear hi276_1 hl276_1
                     replace p276 := eq_true p276
                     replace q276 := eq_true q276
                     have ea_ := Option.some.inj (hx275_1.symm.trans hx276_1)
                     injection ea_ with ea_ en_ ec_
                     subst ea_
                     subst ec_
                     clear en_
                     have p277 : 0 ≤ (x7_4 : Int) := of_decide_eq_true (by first | (with_reducible assumption) | assumption)
                     have q277 : x7_4 < (((rd_T29 t259 x5_2).f1).length : Int) := of_decide_eq_true (by first | (with_reducible assumption) | assumption)
                     obtain ⟨ad277, e277, hx277_0⟩ := Kd.at_int (by repeat (first | (with_reducible exact HR276_1.out) | (with_reducible refine Kd.C_alloc ?_ _) | (with_reducible refine Kd.C_drewN ?_ _) | (with_reducible refine Kd.C_drew ?_) | exact HR276_1.out)) x7_4 p277 q277
                     cases e277
                     replace p277 := eq_true p277
                     replace q277 := eq_true q277
                     obtain ⟨Ao44, co44, eo44⟩ := Kd.R_slice HO_4.out
                     subst eo44
                     have p278 : 0 ≤ ((rd ((rd_T29 t259 x5_2).f1) x7_4) : Int) := of_decide_eq_true (by first | (with_reducible assumption) | assumption)
                     have q278 : (rd ((rd_T29 t259 x5_2).f1) x7_4) < (t262.length : Int) := of_decide_eq_true (by first | (with_reducible assumption) | assumption)
                     obtain ⟨ad278, e278, hx278_0⟩ := Kd.at_int (Kd.R_reads' HO_4.out).2.2 (rd ((rd_T29 t259 x5_2).f1) x7_4) p278 q278
                     cases e278
                     replace p278 := eq_true p278
                     replace q278 := eq_true q278
                     have p280 : 0 ≤ (x5_2 : Int) := of_decide_eq_true (by first | (with_reducible assumption) | assumption)
                     have q280 : x5_2 < (t262.length : Int) := of_decide_eq_true (by first | (with_reducible assumption) | assumption)
                     obtain ⟨ad280, e280, hx280_0⟩ := Kd.at_int (Kd.R_reads' HO_4.out).2.2 x5_2 p280 q280
                     obtain rfl : ad278 = ad280 := (by injection e280)
                     replace p280 := eq_true p280
                     replace q280 := eq_true q280
                     have p281 : 0 ≤ (x5_2 : Int) := of_decide_eq_true (by first | (with_reducible assumption) | assumption)
                     have q281 : x5_2 < (t262.length : Int) := of_decide_eq_true (by first | (with_reducible assumption) | assumption)
                     obtain ⟨ad281, e281, hx281_0⟩ := Kd.at_int (Kd.R_reads' HO_4.out).2.2 x5_2 p281 q281
                     obtain rfl : ad278 = ad281 := (by injection e281)
                     replace p281 := eq_true p281
                     replace q281 := eq_true q281
                     go_wp2
                     go_roundg k4
                     case measure => have := HJ4.out; have := HK2.out; have := HJ24.out; have := HK4.out; omega
                     case rel => exact ⟨(((wrap64 ((rd t262 (rd ((rd_T29 t259 x5_2).f1) x7_4)) + 1)) == (rd t262 x5_2))), (wrap64 (x7_4 + 1)), (by first | rfl | (simp; done) | (simp [*]; done)), (by first | rfl | (simp; done) | (simp [*]; done)), H', ⟨by have := HJ4.out; have := HK2.out; have := HJ24.out; have := HK4.out; omega⟩, ⟨by (with_reducible repeat (first | apply Kd.V_alloc | apply Kd.V_drewN | apply Kd.V_drew)); exact HO_3.out⟩, ⟨rw_ HO_4.out⟩, ⟨blw_⟩⟩
                   ·rw [if_neg c41] at H
                    exact absurd H (by simp)
                 ·rw [if_neg c35] at H
                  exact absurd H (by simp)
                ·rw [if_neg c34] at H
                 exact absurd H (by simp)
               ·rw [if_neg c33] at H
                exact absurd H (by simp)
              ·rw [if_neg c32] at H
               have c32b0 : decide (x7_4 < (((rd_T29 t259 x5_2).f1).length : Int)) = false := decide_eq_false c32
               clear c32
               by_cases c45 : x6_4 = true
               ·subst c45
                have H1 : (laws_FnStageOf.l0 k4 t259 t262 (wrap64 (x5_2 + 1))) = some r := by rw [if_pos rfl] at H; exact H
                clear H
                have H := H1
                clear H1
                have H' := Aside0.mk H
                clear H
                have p275 : 0 ≤ (x5_2 : Int) := of_decide_eq_true (by first | (with_reducible assumption) | assumption)
                have q275 : x5_2 < (t259.length : Int) := of_decide_eq_true (by first | (with_reducible assumption) | assumption)
                obtain ⟨ad275, A275_1, c275_1, e275, hx275_0, hx275_1, hx275_2, hx275_3, hl275_1, hi275_1⟩ := at_T29 (Kd.V_reads' HO_3.out).2.2 x5_2 p275 q275
                cases e275
                obtain ⟨ce275, hce275, hMe275, hcc275⟩ := Kd.V_get HO_3.out z29 x5_2 p275 (by first | exact q275 | exact of_decide_eq_true (by first | (with_reducible assumption) | assumption) | (have e_ := (Kd.V_reads' HO_3.out).1; omega))
                obtain ⟨ua275_1, uc275_1, rfl, ul275_1, ge275_1⟩ := k29_openF hMe275
                have hv275_1 := hcc275 1 _ rfl
                rw [add_field _ _ 1 (by omega)] at hv275_1
                replace hv275_1 := Option.some.inj (hv275_1.symm.trans hx275_1)
                injection hv275_1 with hva_ hvn_ hvc_
                rw [hva_] at ge275_1
                rw [hvc_] at ul275_1
                have HL275_1 := Aside0.mk (show Kd.V (Kd.int .i64) 3 _ w.heap.size _ _ ((rd_T29 t259 x5_2).f1) from Kd.V_mk ul275_1 ge275_1)
                clear hva_ hvn_ hvc_ ge275_1 ul275_1
                clear hcc275 hce275
                have HR275_1 := Aside0.mk hi275_1
                have HC275_1 := Aside0.mk hl275_1
                clear hi275_1 hl275_1
                replace p275 := eq_true p275
                replace q275 := eq_true q275
                go_wp2
                go_roundg k4
                case measure => have := HJ4.out; have := HK2.out; have := HJ24.out; have := HK4.out; omega
                case rel => exact ⟨(wrap64 (x5_2 + 1)), (by first | rfl | (simp; done) | (simp [*]; done)), H', ⟨by have := HJ4.out; have := HK2.out; have := HJ24.out; have := HK4.out; omega⟩, ⟨by (with_reducible repeat (first | apply Kd.V_alloc | apply Kd.V_drewN | apply Kd.V_drew)); exact HO_3.out⟩, ⟨rw_ HO_4.out⟩, ⟨blw_⟩⟩
               ·replace c45 := Bool.eq_false_iff.mpr c45
                subst c45
                have H1 : (some false) = some r := by rw [if_neg (show ¬ (false = true) by decide)] at H; exact H
                clear H
                have H := H1
                clear H1
                obtain rfl := Option.some.inj H
                have p275 : 0 ≤ (x5_2 : Int) := of_decide_eq_true (by first | (with_reducible assumption) | assumption)
                have q275 : x5_2 < (t259.length : Int) := of_decide_eq_true (by first | (with_reducible assumption) | assumption)
                obtain ⟨ad275, A275_1, c275_1, e275, hx275_0, hx275_1, hx275_2, hx275_3, hl275_1, hi275_1⟩ := at_T29 (Kd.V_reads' HO_3.out).2.2 x5_2 p275 q275
                cases e275
                obtain ⟨ce275, hce275, hMe275, hcc275⟩ := Kd.V_get HO_3.out z29 x5_2 p275 (by first | exact q275 | exact of_decide_eq_true (by first | (with_reducible assumption) | assumption) | (have e_ := (Kd.V_reads' HO_3.out).1; omega))
                obtain ⟨ua275_1, uc275_1, rfl, ul275_1, ge275_1⟩ := k29_openF hMe275
                have hv275_1 := hcc275 1 _ rfl
                rw [add_field _ _ 1 (by omega)] at hv275_1
                replace hv275_1 := Option.some.inj (hv275_1.symm.trans hx275_1)
                injection hv275_1 with hva_ hvn_ hvc_
                rw [hva_] at ge275_1
                rw [hvc_] at ul275_1
                have HL275_1 := Aside0.mk (show Kd.V (Kd.int .i64) 3 _ w.heap.size _ _ ((rd_T29 t259 x5_2).f1) from Kd.V_mk ul275_1 ge275_1)
                clear hva_ hvn_ hvc_ ge275_1 ul275_1
                clear hcc275 hce275
                have HR275_1 := Aside0.mk hi275_1
                have HC275_1 := Aside0.mk hl275_1
                clear hi275_1 hl275_1
                replace p275 := eq_true p275
                replace q275 := eq_true q275
                go_wp2
                go_ret
                exact ⟨by first | rfl | (simp [errW_none, errW_some] <;> rfl) | (simp [*, errW_none, errW_some] <;> rfl), blw_⟩
             ·rw [if_neg c31] at H
              exact absurd H (by simp)
            ·rw [if_neg c30] at H
             exact absurd H (by simp)
       ·rw [if_neg c24] at H
        have c24b0 : decide (x5_2 < (t259.length : Int)) = false := decide_eq_false c24
        clear c24
        obtain rfl := Option.some.inj H
        go_wp2
        go_ret
        exact ⟨by first | rfl | (simp [errW_none, errW_some] <;> rfl) | (simp [*, errW_none, errW_some] <;> rfl), blw_⟩

/-- THE ONE PURE STATEMENT of laws_FnStageOf: yours. -/
def laws_FnStageOf.Pure : Prop := ∀ (l0 : List Int), l0.length ≤ maxLen → l0.length * 1 ≤ 140737488351232 → (∀ x ∈ l0, (Lit.int .u8 x).wf = true) → ∃ k, laws_FnStageOf.f k l0 = some true
theorem laws_FnStageOf.walk (P : laws_FnStageOf.Pure) (a0 : Option Addr) (len0 cap0 : Nat) (z0 : List Int) (w : World) (w0 : (a0 = none ∧ len0 = 0 ∧ cap0 = 0 ∧ z0 = []) ∨ ∃ x, a0 = some x ∧ len0 ≤ cap0 ∧ cap0 ≤ maxLen ∧ z0.length = cap0 ∧ (∀ i, i < z0.length → w.cell? (x.add i) = some (.int .u8 (z0.getD i 0))) ∧ ∀ n ∈ z0, (Lit.int .u8 n).wf = true) (y0 : len0 * 1 ≤ 140737488351232) (hT_ : Tab w) :
  Calls Tryd.prog 3 #[.slice a0 len0 cap0] w fun e w' => e = .returned (.bool true) ∧ Below w.heap.size w w' := by
 obtain ⟨l0, rfl, hr0, hm0, hw0, hc0⟩ := ReadsInt.ofRowC w0
 obtain ⟨k, h⟩ := P l0 hm0 y0 hw0
 refine (laws_FnStageOf.calls k _ _ l0 true w (Kd.C_of_reads (d := (0 : Int)) (h1 := fun _ => rfl) hr0) hc0 h hT_).mono ?_
 rintro e w' ⟨rfl, hd⟩
 exact ⟨rfl, hd⟩

end Go.Proofs.YtbodhggmhbiebaaDoor.G
