-- SLIM
-- Written by hyb.py, a driver of this session round the print.py of the kit. Lean checks it.
import Derived.Test.YtbodhggmhbiebaaDoorWRepsOne
import Derived.Test.YtbodhggmhbiebaaDoorG0
import Derived.Test.YtbodhggmhbiebaaDoorG7
import Derived.Test.YtbodhggmhbiebaaDoorG8
import Derived.Test.YtbodhggmhbiebaaDoorHDraw
import Derived.Test.YtbodhggmhbiebaaDoorHStage
import Derived.Test.YtbodhggmhbiebaaDoorHStages
namespace Go.Proofs.YtbodhggmhbiebaaDoor.G
open Go.RowKit Go.Proofs.YtbodhggmhbiebaaDoorW.PrintWords Go.Proofs.YtbodhggmhbiebaaDoorW.PrintLast Go.Proofs.YtbodhggmhbiebaaDoorW.PrintMore
attribute [local go_sem] max2_int min2_int max_two min_two max_three min_three max_four min_four   -- for this text's walks alone
set_option linter.unusedVariables false
set_option linter.unusedSimpArgs false

/-! ### laws_FnStagesOf: function 5 -/
mutual
def laws_FnStagesOf.j0 : Nat → List (S29) → List (List Int) → Bool → Option (Bool)
 | 0, _, _, _ => none
 | k + 1, x3, x4, x26 => if x26 = true then ((spec_StagesOf.f k x3).bind fun t332 => ((laws_equalLists.f k x4 t332).bind fun t335 => (some t335))) else ((impl_StageOf.f x3).bind fun t336 => (laws_FnStagesOf.l0 k x3 x4 t336 0 0))
def laws_FnStagesOf.l0 : Nat → List (S29) → List (List Int) → List Int → Int → Int → Option (Bool)
 | 0, _, _, _, _, _ => none
 | k + 1, x3, x4, x5, x6, x7 => if x7 < (x4.length : Int) then (if 0 ≤ x7 then (laws_FnStagesOf.l1 k x3 x4 x5 (wrap64 (x6 + ((rd_L1 x4 x7).length : Int))) x7 0) else (none)) else (some (x6 == (x3.length : Int)))
def laws_FnStagesOf.l1 : Nat → List (S29) → List (List Int) → List Int → Int → Int → Int → Option (Bool)
 | 0, _, _, _, _, _, _ => none
 | k + 1, x3, x4, x5, x6, x7, x8 => if 0 ≤ x7 then (if x7 < (x4.length : Int) then (if x8 < ((rd_L1 x4 x7).length : Int) then (if 0 ≤ x8 then (if (rd (rd_L1 x4 x7) x8) < 0 then (some false) else (if (rd (rd_L1 x4 x7) x8) ≥ (x5.length : Int) then (some false) else (if 0 ≤ (rd (rd_L1 x4 x7) x8) then (if (rd (rd_L1 x4 x7) x8) < (x5.length : Int) then (if (rd x5 (rd (rd_L1 x4 x7) x8)) = x7 then (if x8 > 0 then (if 0 ≤ (wrap64 (x8 - 1)) then (if (wrap64 (x8 - 1)) < ((rd_L1 x4 x7).length : Int) then (if (rd (rd_L1 x4 x7) x8) ≤ (rd (rd_L1 x4 x7) (wrap64 (x8 - 1))) then (some false) else (laws_FnStagesOf.l1 k x3 x4 x5 x6 x7 (wrap64 (x8 + 1)))) else (none)) else (none)) else (laws_FnStagesOf.l1 k x3 x4 x5 x6 x7 (wrap64 (x8 + 1)))) else (some false)) else (none)) else (none)))) else (none)) else (if ((rd_L1 x4 x7).length : Int) = 0 then (some false) else (laws_FnStagesOf.l0 k x3 x4 x5 x6 (wrap64 (x7 + 1))))) else (none)) else (none)
end
def laws_FnStagesOf.f (k : Nat) (l0 : List Int) : Option (Bool) := if (l0.length : Int) > 1048576 then (some true) else ((spec_DrawStagesOf.f l0).bind fun t322 => ((impl_StagesOf.f t322).bind fun t325 => ((spec_StagesOf.f k t322).bind fun t328 => ((laws_equalLists.f k t325 t328).bind fun t331 => (if t331 = true then (laws_FnStagesOf.j0 k t322 t325 ((t325.length : Int) == 0)) else (laws_FnStagesOf.j0 k t322 t325 true))))))
set_option maxHeartbeats 8000000 in
set_option maxRecDepth 100000 in
theorem laws_FnStagesOf.calls (k : Nat) (A0 : Option Addr) (c0 : Nat) (l0 : List Int) (r : Bool) (w : World) (hr0 : Kd.C (Kd.int .u8) w A0 l0.length l0) (hc0 : l0.length ≤ c0) (h : laws_FnStagesOf.f k l0 = some r) (hT_ : Tab w) :
  Calls Tryd.prog 5 #[.slice A0 l0.length c0] w fun e w' => e = .returned (.bool r) ∧ Below w.heap.size w w' := by
 have HTAB_ := Aside0.mk hT_
 clear hT_
 have HR0 := Aside0.mk hr0
 have HC0 := Aside0.mk hc0
 clear hr0 hc0
 have HB := Aside0.mk (Below.refl w.heap.size w)
 have H : (if (l0.length : Int) > 1048576 then (some true) else ((spec_DrawStagesOf.f l0).bind fun t322 => ((impl_StagesOf.f t322).bind fun t325 => ((spec_StagesOf.f k t322).bind fun t328 => ((laws_equalLists.f k t325 t328).bind fun t331 => (if t331 = true then (laws_FnStagesOf.j0 k t322 t325 ((t325.length : Int) == 0)) else (laws_FnStagesOf.j0 k t322 t325 true))))))) = some r := h
 clear h
 by_cases c2 : (l0.length : Int) > 1048576
 ·rw [if_pos c2] at H
  have c2b0 : decide (1048576 < (l0.length : Int)) = true := decide_eq_true c2
  have c2b1 : decide (1048576 < l0.length) = true := decide_eq_true (by omega)
  clear c2
  obtain rfl := Option.some.inj H
  go_enter Tryd.func5, Tryd.ntmps5
  go_wp2
  go_ret
  exact ⟨by first | rfl | (simp [errW_none, errW_some] <;> rfl) | (simp [*, errW_none, errW_some] <;> rfl), blw_⟩
 ·rw [if_neg c2] at H
  have c2b0 : decide (1048576 < (l0.length : Int)) = false := decide_eq_false c2
  have c2b1 : decide (1048576 < l0.length) = false := decide_eq_false (by omega)
  clear c2
  replace H := Option.bind_eq_some_iff.mp H
  obtain ⟨t322, A30, H⟩ := H
  replace H : ((impl_StagesOf.f t322).bind fun t325 => ((spec_StagesOf.f k t322).bind fun t328 => ((laws_equalLists.f k t325 t328).bind fun t331 => (if t331 = true then (laws_FnStagesOf.j0 k t322 t325 ((t325.length : Int) == 0)) else (laws_FnStagesOf.j0 k t322 t325 true))))) = some r := H
  have A3 := Aside0.mk A30
  clear A30
  replace H := Option.bind_eq_some_iff.mp H
  obtain ⟨t325, A40, H⟩ := H
  replace H : ((spec_StagesOf.f k t322).bind fun t328 => ((laws_equalLists.f k t325 t328).bind fun t331 => (if t331 = true then (laws_FnStagesOf.j0 k t322 t325 ((t325.length : Int) == 0)) else (laws_FnStagesOf.j0 k t322 t325 true)))) = some r := H
  have A4 := Aside0.mk A40
  clear A40
  have HC5 := Aside0.mk H
  clear H
  go_enter Tryd.func5, Tryd.ntmps5
  go_upto_region 5 with (first | ((with_reducible refine gate_callee (f := 14) rfl ?_); refine goesC_ (some 14) Tryd.func14 #[.slice A0 l0.length c0] ?_; (with_reducible refine (spec_DrawStagesOf.calls _ _ l0 t322 _ ?side1 ?side2 A3.out).mono ?_); (case side1 => exact cw_ HR0.out); (case side2 => exact HC0.out); rintro e w6 ⟨v323, rfl, ho0, hb⟩; refine ⟨_, rfl, ?_⟩; have n0_ := Aside0.mk (Kd.V_lower (Kd.V_mono (ok' := fun k_ => True) ho0 (fun k_ hk_ => trivial)) (below_size blw_)); have n1_ := Aside0.mk (below_step blw_ hb); clear HB; have HO324 := n0_; have HB := n1_; clear n0_ n1_; (try clear hb); (try clear hb2); (try clear hk); (try clear hi); (try clear ho0); obtain ⟨Ao7, co7, eo7⟩ := Kd.V_slice HO324.out; subst eo7) | ((with_reducible refine gate_callee (f := 15) rfl ?_); refine goesC_ (some 16) Tryd.func15 #[.slice Ao7 t322.length co7] ?_; (with_reducible refine (impl_StagesOf.calls _ _ t322 t325 _ ?side1 ?side2 A4.out ?sideT).mono ?_); (case sideT => first | exact HTAB_.out.below blw_ HTAB_.out.pos | exact HTAB_.out); (case side1 => exact cw_ (Kd.V_reads' HO324.out).2.2); (case side2 => exact (Kd.V_reads' HO324.out).2.1); rintro e w8 ⟨v326, rfl, ho0, hb⟩; refine ⟨_, rfl, ?_⟩; have n0_ := Aside0.mk (Kd.V_elder' (by (with_reducible repeat (first | apply Kd.V_alloc | apply Kd.V_drewN | apply Kd.V_drew)); exact HO324.out) (Kd.S_base ho0) hb); have n1_ := Aside0.mk (Kd.S_lower ho0 (below_size blw_)); have n2_ := Aside0.mk (below_step blw_ hb); clear HO324; clear HB; have HO324 := n0_; have HO327 := n1_; have HB := n2_; clear n0_ n1_ n2_; (try clear hb); (try clear hb2); (try clear hk); (try clear hi); (try clear ho0)))
  (try simp only [Act.put, List.setIfInBounds_toArray, List.set_cons_zero, List.set_cons_succ])
  go_cut [26] (fun v26 wc => ∃ (kq : Nat) (x26_4 : Bool), v26 = .bool x26_4 ∧ Aside0 (laws_FnStagesOf.j0 kq t322 t325 x26_4 = some r) ∧ Aside0 (kq ≤ k) ∧ Aside0 (Kd.V k29 29 wc w.heap.size (fun k_ => some k_ ≠ (v326 : Value).ownBlock) (.slice Ao7 t322.length co7) t322) ∧ Aside0 (Kd.S (Kd.slice 3 (Kd.int .i64)) 25 wc w.heap.size (fun _ => True) v326 t325) ∧ Aside0 (Below w.heap.size w wc))
  case first =>
   have H := HC5.out
   clear HC5
   replace H := Option.bind_eq_some_iff.mp H
   obtain ⟨t328, A90, H⟩ := H
   replace H : ((laws_equalLists.f k t325 t328).bind fun t331 => (if t331 = true then (laws_FnStagesOf.j0 k t322 t325 ((t325.length : Int) == 0)) else (laws_FnStagesOf.j0 k t322 t325 true))) = some r := H
   have A9 := Aside0.mk A90
   clear A90
   replace H := Option.bind_eq_some_iff.mp H
   obtain ⟨t331, A100, H⟩ := H
   replace H : (if t331 = true then (laws_FnStagesOf.j0 k t322 t325 ((t325.length : Int) == 0)) else (laws_FnStagesOf.j0 k t322 t325 true)) = some r := H
   have A10 := Aside0.mk A100
   clear A100
   by_cases c11 : t331 = true
   ·subst c11
    have H1 : (laws_FnStagesOf.j0 k t322 t325 ((t325.length : Int) == 0)) = some r := by rw [if_pos rfl] at H; exact H
    clear H
    have H := H1
    clear H1
    have H' := Aside0.mk H
    clear H
    go_wp2_with (first | ((with_reducible refine gate_callee (f := 17) rfl ?_); refine goesC_ (some 19) Tryd.func17 #[.slice Ao7 t322.length co7] ?_; (with_reducible refine (spec_StagesOf.calls k _ _ t322 t328 _ ?side1 ?side2 A9.out).mono ?_); (case side1 => exact cw_ (Kd.V_reads' HO324.out).2.2); (case side2 => exact (Kd.V_reads' HO324.out).2.1); rintro e w12 ⟨v329, rfl, ho0, hb⟩; refine ⟨_, rfl, ?_⟩; have n0_ := Aside0.mk (Kd.V_elder' (by (with_reducible repeat (first | apply Kd.V_alloc | apply Kd.V_drewN | apply Kd.V_drew)); exact HO324.out) (Kd.S_base ho0) hb); have n1_ := Aside0.mk (Kd.S_elder' (by (with_reducible repeat (first | apply Kd.S_alloc | apply Kd.S_drewN | apply Kd.S_drew)); exact HO327.out) (Kd.S_base ho0) hb); have n2_ := Aside0.mk (Kd.S_lower (Kd.S_new' ho0 (Kd.S_lt (by (with_reducible repeat (first | apply Kd.S_alloc | apply Kd.S_drewN | apply Kd.S_drew)); exact HO327.out))) (below_size blw_)); have n3_ := Aside0.mk (below_step blw_ hb); clear HO324; clear HO327; clear HB; have HO324 := n0_; have HO327 := n1_; have HO330 := n2_; have HB := n3_; clear n0_ n1_ n2_ n3_; (try clear hb); (try clear hb2); (try clear hk); (try clear hi); (try clear ho0); obtain ⟨Ao13, co13, eo13⟩ := Kd.S_slice HO327.out; subst eo13; obtain ⟨Ao14, co14, eo14⟩ := Kd.S_slice HO330.out; subst eo14) | ((with_reducible refine gate_callee (f := 16) rfl ?_); refine goesC_ (some 20) Tryd.func16 #[.slice Ao13 t325.length co13, .slice Ao14 t328.length co14] ?_; (with_reducible refine (laws_equalLists.calls k _ _ t325 _ _ t328 true _ ?side1 ?side2 ?side3 ?side4 A10.out).mono ?_); (case side1 => exact cw_ (Kd.S_reads' HO327.out).2.2); (case side2 => exact (Kd.S_reads' HO327.out).2.1); (case side3 => exact cw_ (Kd.S_reads' HO330.out).2.2); (case side4 => exact (Kd.S_reads' HO330.out).2.1); rintro e w' ⟨rfl, ⟨nd, rfl⟩⟩; refine ⟨_, rfl, ?_⟩))
    go_meet
    case rel => exact ⟨_, (((t325.length : Int) == 0)), (by first | rfl | (simp; done) | (simp [*]; done)), H', ⟨by first | omega | exact Nat.le_refl _⟩, ⟨by (with_reducible repeat (first | apply Kd.V_alloc | apply Kd.V_drewN | apply Kd.V_drew)); exact Kd.V_mono HO324.out (fun _ hk => hk.1.2)⟩, ⟨by (with_reducible repeat (first | apply Kd.S_alloc | apply Kd.S_drewN | apply Kd.S_drew)); exact Kd.S_mono HO327.out (fun _ hk => trivial)⟩, ⟨blw_⟩⟩
   ·replace c11 := Bool.eq_false_iff.mpr c11
    subst c11
    have H1 : (laws_FnStagesOf.j0 k t322 t325 true) = some r := by rw [if_neg (show ¬ (false = true) by decide)] at H; exact H
    clear H
    have H := H1
    clear H1
    have H' := Aside0.mk H
    clear H
    go_wp2_with (first | ((with_reducible refine gate_callee (f := 17) rfl ?_); refine goesC_ (some 19) Tryd.func17 #[.slice Ao7 t322.length co7] ?_; (with_reducible refine (spec_StagesOf.calls k _ _ t322 t328 _ ?side1 ?side2 A9.out).mono ?_); (case side1 => exact cw_ (Kd.V_reads' HO324.out).2.2); (case side2 => exact (Kd.V_reads' HO324.out).2.1); rintro e w15 ⟨v329, rfl, ho0, hb⟩; refine ⟨_, rfl, ?_⟩; have n0_ := Aside0.mk (Kd.V_elder' (by (with_reducible repeat (first | apply Kd.V_alloc | apply Kd.V_drewN | apply Kd.V_drew)); exact HO324.out) (Kd.S_base ho0) hb); have n1_ := Aside0.mk (Kd.S_elder' (by (with_reducible repeat (first | apply Kd.S_alloc | apply Kd.S_drewN | apply Kd.S_drew)); exact HO327.out) (Kd.S_base ho0) hb); have n2_ := Aside0.mk (Kd.S_lower (Kd.S_new' ho0 (Kd.S_lt (by (with_reducible repeat (first | apply Kd.S_alloc | apply Kd.S_drewN | apply Kd.S_drew)); exact HO327.out))) (below_size blw_)); have n3_ := Aside0.mk (below_step blw_ hb); clear HO324; clear HO327; clear HB; have HO324 := n0_; have HO327 := n1_; have HO330 := n2_; have HB := n3_; clear n0_ n1_ n2_ n3_; (try clear hb); (try clear hb2); (try clear hk); (try clear hi); (try clear ho0); obtain ⟨Ao16, co16, eo16⟩ := Kd.S_slice HO327.out; subst eo16; obtain ⟨Ao17, co17, eo17⟩ := Kd.S_slice HO330.out; subst eo17) | ((with_reducible refine gate_callee (f := 16) rfl ?_); refine goesC_ (some 20) Tryd.func16 #[.slice Ao16 t325.length co16, .slice Ao17 t328.length co17] ?_; (with_reducible refine (laws_equalLists.calls k _ _ t325 _ _ t328 false _ ?side1 ?side2 ?side3 ?side4 A10.out).mono ?_); (case side1 => exact cw_ (Kd.S_reads' HO327.out).2.2); (case side2 => exact (Kd.S_reads' HO327.out).2.1); (case side3 => exact cw_ (Kd.S_reads' HO330.out).2.2); (case side4 => exact (Kd.S_reads' HO330.out).2.1); rintro e w' ⟨rfl, ⟨nd, rfl⟩⟩; refine ⟨_, rfl, ?_⟩))
    go_meet
    case rel => exact ⟨_, (true), (by first | rfl | (simp; done) | (simp [*]; done)), H', ⟨by first | omega | exact Nat.le_refl _⟩, ⟨by (with_reducible repeat (first | apply Kd.V_alloc | apply Kd.V_drewN | apply Kd.V_drew)); exact Kd.V_mono HO324.out (fun _ hk => hk.1.2)⟩, ⟨by (with_reducible repeat (first | apply Kd.S_alloc | apply Kd.S_drewN | apply Kd.S_drew)); exact Kd.S_mono HO327.out (fun _ hk => trivial)⟩, ⟨blw_⟩⟩
  case rest =>
   clear HC5
   try clear c1
   try clear c2
   try clear c2b0
   try clear c2b1
   try clear p2
   try clear c5
   try clear c11
   try clear c14
   try clear c15
   try clear c16
   try clear c17
   obtain ⟨kq, x26_4, rfl, HA, HJ4, HO_3, HO_4, HB⟩ := hcut
   cases kq with
   | zero => exact absurd HA.out (by simp [laws_FnStagesOf.j0])
   | succ kj4 =>
    have H := HA.out
    clear HA
    simp only [laws_FnStagesOf.j0] at H
    by_cases c18 : x26_4 = true
    ·subst c18
     have H1 : ((spec_StagesOf.f kj4 t322).bind fun t332 => ((laws_equalLists.f kj4 t325 t332).bind fun t335 => (some t335))) = some r := by rw [if_pos rfl] at H; exact H
     clear H
     have H := H1
     clear H1
     replace H := Option.bind_eq_some_iff.mp H
     obtain ⟨t332, A190, H⟩ := H
     replace H : ((laws_equalLists.f kj4 t325 t332).bind fun t335 => (some t335)) = some r := H
     have A19 := Aside0.mk A190
     clear A190
     replace H := Option.bind_eq_some_iff.mp H
     obtain ⟨t335, A200, H⟩ := H
     replace H : (some t335) = some r := H
     have A20 := Aside0.mk A200
     clear A200
     obtain rfl := Option.some.inj H
     go_wp2_with (first | ((with_reducible refine gate_callee (f := 17) rfl ?_); refine goesC_ (some 29) Tryd.func17 #[.slice Ao7 t322.length co7] ?_; (with_reducible refine (spec_StagesOf.calls kj4 _ _ t322 t332 _ ?side1 ?side2 A19.out).mono ?_); (case side1 => exact cw_ (Kd.V_reads' HO_3.out).2.2); (case side2 => exact (Kd.V_reads' HO_3.out).2.1); rintro e w21 ⟨v333, rfl, ho0, hb⟩; refine ⟨_, rfl, ?_⟩; have n0_ := Aside0.mk (Kd.V_elder' (by (with_reducible repeat (first | apply Kd.V_alloc | apply Kd.V_drewN | apply Kd.V_drew)); exact HO_3.out) (Kd.S_base ho0) hb); have n1_ := Aside0.mk (Kd.S_elder' (by (with_reducible repeat (first | apply Kd.S_alloc | apply Kd.S_drewN | apply Kd.S_drew)); exact HO_4.out) (Kd.S_base ho0) hb); have n2_ := Aside0.mk (Kd.S_lower (Kd.S_new' ho0 (Kd.S_lt (by (with_reducible repeat (first | apply Kd.S_alloc | apply Kd.S_drewN | apply Kd.S_drew)); exact HO_4.out))) (below_size blw_)); have n3_ := Aside0.mk (below_step blw_ hb); clear HO_3; clear HO_4; clear HB; have HO_3 := n0_; have HO_4 := n1_; have HO334 := n2_; have HB := n3_; clear n0_ n1_ n2_ n3_; (try clear hb); (try clear hb2); (try clear hk); (try clear hi); (try clear ho0); obtain ⟨Ao22, co22, eo22⟩ := Kd.S_slice HO_4.out; subst eo22; obtain ⟨Ao23, co23, eo23⟩ := Kd.S_slice HO334.out; subst eo23) | ((with_reducible refine gate_callee (f := 16) rfl ?_); refine goesC_ (some 30) Tryd.func16 #[.slice Ao22 t325.length co22, .slice Ao23 t332.length co23] ?_; (with_reducible refine (laws_equalLists.calls kj4 _ _ t325 _ _ t332 t335 _ ?side1 ?side2 ?side3 ?side4 A20.out).mono ?_); (case side1 => exact cw_ (Kd.S_reads' HO_4.out).2.2); (case side2 => exact (Kd.S_reads' HO_4.out).2.1); (case side3 => exact cw_ (Kd.S_reads' HO334.out).2.2); (case side4 => exact (Kd.S_reads' HO334.out).2.1); rintro e w' ⟨rfl, ⟨nd, rfl⟩⟩; refine ⟨_, rfl, ?_⟩))
     go_ret
     exact ⟨by first | rfl | (simp [errW_none, errW_some] <;> rfl) | (simp [*, errW_none, errW_some] <;> rfl), blw_⟩
    ·replace c18 := Bool.eq_false_iff.mpr c18
     subst c18
     have H1 : ((impl_StageOf.f t322).bind fun t336 => (laws_FnStagesOf.l0 kj4 t322 t325 t336 0 0)) = some r := by rw [if_neg (show ¬ (false = true) by decide)] at H; exact H
     clear H
     have H := H1
     clear H1
     replace H := Option.bind_eq_some_iff.mp H
     obtain ⟨t336, A240, H⟩ := H
     replace H : (laws_FnStagesOf.l0 kj4 t322 t325 t336 0 0) = some r := H
     have A24 := Aside0.mk A240
     clear A240
     have H' := Aside0.mk H
     clear H
     go_wp2_with (first | ((with_reducible refine gate_callee (f := 10) rfl ?_); refine goesC_ (some 32) Tryd.func10 #[.slice Ao7 t322.length co7] ?_; (with_reducible refine (impl_StageOf.calls _ _ t322 t336 _ ?side1 ?side2 A24.out ?sideT).mono ?_); (case sideT => first | exact HTAB_.out.below blw_ HTAB_.out.pos | exact HTAB_.out); (case side1 => exact cw_ (Kd.V_reads' HO_3.out).2.2); (case side2 => exact (Kd.V_reads' HO_3.out).2.1); rintro e w25 ⟨v337, rfl, ho0, hb⟩; refine ⟨_, rfl, ?_⟩; have n0_ := Aside0.mk (Kd.V_elder' (by (with_reducible repeat (first | apply Kd.V_alloc | apply Kd.V_drewN | apply Kd.V_drew)); exact HO_3.out) (Kd.R_base ho0) hb); have n1_ := Aside0.mk (Kd.S_elder' (by (with_reducible repeat (first | apply Kd.S_alloc | apply Kd.S_drewN | apply Kd.S_drew)); exact HO_4.out) (Kd.R_base ho0) hb); have n2_ := Aside0.mk (Kd.R_lower ho0 (below_size blw_)); have n3_ := Aside0.mk (below_step blw_ hb); clear HO_3; clear HO_4; clear HB; have HO_3 := n0_; have HO_4 := n1_; have HO338 := n2_; have HB := n3_; clear n0_ n1_ n2_ n3_; (try clear hb); (try clear hb2); (try clear hk); (try clear hi); (try clear ho0)))
     go_loopg [6, 7] kj4 (fun kq v6 v7 w' => ∃ (x6_2 : Int) (x7_2 : Int), v6 = .int .i64 x6_2 ∧ v7 = .int .i64 x7_2 ∧ Aside0 (laws_FnStagesOf.l0 kq t322 t325 t336 x6_2 x7_2 = some r) ∧ Aside0 (kq ≤ kj4) ∧ Aside0 (Kd.V k29 29 w' w.heap.size (fun k_ => some k_ ≠ (v326 : Value).ownBlock ∧ some k_ ≠ (v337 : Value).ownBlock) (.slice Ao7 t322.length co7) t322) ∧ Aside0 (Kd.S (Kd.slice 3 (Kd.int .i64)) 25 w' w.heap.size (fun k_ => some k_ ≠ (v337 : Value).ownBlock) v326 t325) ∧ Aside0 (Kd.R (Kd.int .i64) 3 w' w.heap.size (fun _ => True) v337 t336) ∧ Aside0 (Below w.heap.size w w'))
     case atStart => exact ⟨(0), (0), (by first | rfl | (simp; done) | (simp [*]; done)), (by first | rfl | (simp; done) | (simp [*]; done)), H', ⟨Nat.le_refl _⟩, ⟨by (with_reducible repeat (first | apply Kd.V_alloc | apply Kd.V_drewN | apply Kd.V_drew)); exact HO_3.out⟩, ⟨by (with_reducible repeat (first | apply Kd.S_alloc | apply Kd.S_drewN | apply Kd.S_drew)); exact Kd.S_mono HO_4.out (fun _ hk => hk.2)⟩, ⟨rw_ HO338.out⟩, ⟨blw_⟩⟩
     case round =>
      clear H'
      try clear c1
      try clear c2
      try clear c2b0
      try clear c2b1
      try clear p2
      try clear c5
      try clear c10
      try clear c11
      try clear c14
      try clear c15
      try clear c16
      try clear c17
      try clear c18
      try clear p2
      obtain ⟨x6_2, x7_2, rfl, rfl, HA, HK2, HO_3, HO_4, HO_5, HB⟩ := hrel
      cases gk with
      | zero => exact absurd HA.out (by simp [laws_FnStagesOf.l0])
      | succ k2 =>
       have H := HA.out
       clear HA
       simp only [laws_FnStagesOf.l0] at H
       by_cases c26 : x7_2 < (t325.length : Int)
       ·rw [if_pos c26] at H
        have c26b0 : decide (x7_2 < (t325.length : Int)) = true := decide_eq_true c26
        clear c26
        by_cases c27 : 0 ≤ x7_2
        ·rw [if_pos c27] at H
         have c27b0 : decide (0 ≤ x7_2) = true := decide_eq_true c27
         clear c27
         have H' := Aside0.mk H
         clear H
         obtain ⟨Ao28, co28, eo28⟩ := Kd.S_slice HO_4.out
         subst eo28
         have p339 : 0 ≤ (x7_2 : Int) := of_decide_eq_true (by first | (with_reducible assumption) | assumption)
         have q339 : x7_2 < (t325.length : Int) := of_decide_eq_true (by first | (with_reducible assumption) | assumption)
         obtain ⟨ad339, A339_0, c339_0, e339, hx339_0, hl339_0, hi339_0⟩ := at_L1 (Kd.S_reads' HO_4.out).2.2 x7_2 p339 q339
         cases e339
         obtain ⟨ce339, hce339, hMe339, hcc339⟩ := Kd.S_get HO_4.out [] x7_2 p339 (by first | exact q339 | exact of_decide_eq_true (by first | (with_reducible assumption) | assumption) | (have e_ := (Kd.S_reads' HO_4.out).1; omega))
         obtain ⟨ve339_0, rfl, ge339_0⟩ := hMe339
         have hv339_0 := hcc339 0 _ rfl
         rw [Nat.add_zero, show ((Kd.slice 3 (Kd.int .i64))).sz = 1 from rfl, Nat.mul_one] at hv339_0
         replace hv339_0 := Option.some.inj (hv339_0.symm.trans hx339_0)
         rw [hv339_0] at ge339_0
         have HL339_0 := Aside0.mk (show Kd.R (Kd.int .i64) 3 _ _ _ _ (rd_L1 t325 x7_2) from ge339_0)
         clear hv339_0 ge339_0
         clear hcc339 hce339
         have HR339_0 := Aside0.mk hi339_0
         have HC339_0 := Aside0.mk hl339_0
         clear hi339_0 hl339_0
         replace p339 := eq_true p339
         replace q339 := eq_true q339
         go_wp2
         go_loopg [8] k2 (fun kq v8 w' => ∃ (x8_3 : Int), v8 = .int .i64 x8_3 ∧ Aside0 (laws_FnStagesOf.l1 kq t322 t325 t336 (wrap64 (x6_2 + ((rd_L1 t325 x7_2).length : Int))) x7_2 x8_3 = some r) ∧ Aside0 (kq ≤ k2) ∧ Aside0 (Kd.V k29 29 w' w.heap.size (fun k_ => some k_ ≠ ((.slice (some ad339) t325.length co28) : Value).ownBlock ∧ some k_ ≠ (v337 : Value).ownBlock) (.slice Ao7 t322.length co7) t322) ∧ Aside0 (Kd.S (Kd.slice 3 (Kd.int .i64)) 25 w' w.heap.size (fun k_ => some k_ ≠ (v337 : Value).ownBlock) (.slice (some ad339) t325.length co28) t325) ∧ Aside0 (Kd.R (Kd.int .i64) 3 w' w.heap.size (fun _ => True) v337 t336) ∧ Aside0 (Kd.C (Kd.int .i64) w' A339_0 (rd_L1 t325 x7_2).length (rd_L1 t325 x7_2)) ∧ Aside0 (Below w.heap.size w w'))
         case atStart => exact ⟨(0), (by first | rfl | (simp; done) | (simp [*]; done)), H', ⟨Nat.le_refl _⟩, ⟨by (with_reducible repeat (first | apply Kd.V_alloc | apply Kd.V_drewN | apply Kd.V_drew)); exact HO_3.out⟩, ⟨by (with_reducible repeat (first | apply Kd.S_alloc | apply Kd.S_drewN | apply Kd.S_drew)); exact HO_4.out⟩, ⟨rw_ HO_5.out⟩, ⟨by repeat (first | (with_reducible exact HR339_0.out) | (with_reducible refine Kd.C_alloc ?_ _) | (with_reducible refine Kd.C_drewN ?_ _) | (with_reducible refine Kd.C_drew ?_) | exact HR339_0.out)⟩, ⟨blw_⟩⟩
         case round =>
          clear H'
          try clear c1
          try clear c2
          try clear c2b0
          try clear c2b1
          try clear p2
          try clear c3
          try clear p3
          try clear q3
          try clear hx3
          try clear c5
          try clear p6
          try clear c10
          try clear c11
          try clear c14
          try clear c15
          try clear c16
          try clear c17
          try clear c18
          try clear c26
          try clear c26b0
          try clear c27
          try clear c27b0
          try clear hx339_0
          try clear p2
          try clear p339
          try clear q339
          obtain ⟨x8_3, rfl, HA, HK3, HO_3, HO_4, HO_5, HR339_0, HB⟩ := hrel
          cases gk with
          | zero => exact absurd HA.out (by simp [laws_FnStagesOf.l1])
          | succ k3 =>
           have H := HA.out
           clear HA
           simp only [laws_FnStagesOf.l1] at H
           by_cases c29 : 0 ≤ x7_2
           ·rw [if_pos c29] at H
            have c29b0 : decide (0 ≤ x7_2) = true := decide_eq_true c29
            clear c29
            by_cases c30 : x7_2 < (t325.length : Int)
            ·rw [if_pos c30] at H
             have c30b0 : decide (x7_2 < (t325.length : Int)) = true := decide_eq_true c30
             clear c30
             by_cases c31 : x8_3 < ((rd_L1 t325 x7_2).length : Int)
             ·rw [if_pos c31] at H
              have c31b0 : decide (x8_3 < ((rd_L1 t325 x7_2).length : Int)) = true := decide_eq_true c31
              clear c31
              by_cases c32 : 0 ≤ x8_3
              ·rw [if_pos c32] at H
               have c32b0 : decide (0 ≤ x8_3) = true := decide_eq_true c32
               clear c32
               by_cases c33 : (rd (rd_L1 t325 x7_2) x8_3) < 0
               ·rw [if_pos c33] at H
                have c33b0 : decide ((rd (rd_L1 t325 x7_2) x8_3) < 0) = true := decide_eq_true c33
                clear c33
                obtain rfl := Option.some.inj H
                have p340 : 0 ≤ (x7_2 : Int) := of_decide_eq_true (by first | (with_reducible assumption) | assumption)
                have q340 : x7_2 < (t325.length : Int) := of_decide_eq_true (by first | (with_reducible assumption) | assumption)
                obtain ⟨ad340, A340_0, c340_0, e340, hx340_0, hl340_0, hi340_0⟩ := at_L1 (Kd.S_reads' HO_4.out).2.2 x7_2 p340 q340
                obtain rfl : ad339 = ad340 := (by injection e340)
                obtain ⟨ce340, hce340, hMe340, hcc340⟩ := Kd.S_get HO_4.out [] x7_2 p340 (by first | exact q340 | exact of_decide_eq_true (by first | (with_reducible assumption) | assumption) | (have e_ := (Kd.S_reads' HO_4.out).1; omega))
                obtain ⟨ve340_0, rfl, ge340_0⟩ := hMe340
                have hv340_0 := hcc340 0 _ rfl
                rw [Nat.add_zero, show ((Kd.slice 3 (Kd.int .i64))).sz = 1 from rfl, Nat.mul_one] at hv340_0
                replace hv340_0 := Option.some.inj (hv340_0.symm.trans hx340_0)
                rw [hv340_0] at ge340_0
                have HL340_0 := Aside0.mk (show Kd.R (Kd.int .i64) 3 _ _ _ _ (rd_L1 t325 x7_2) from ge340_0)
                clear hv340_0 ge340_0
                clear hcc340 hce340
                have HR340_0 := Aside0.mk hi340_0
                have HC340_0 := Aside0.mk hl340_0
                clear hi340_0 hl340_0
                replace p340 := eq_true p340
                replace q340 := eq_true q340
                have p341 : 0 ≤ (x7_2 : Int) := of_decide_eq_true (by first | (with_reducible assumption) | assumption)
                have q341 : x7_2 < (t325.length : Int) := of_decide_eq_true (by first | (with_reducible assumption) | assumption)
                obtain ⟨ad341, A341_0, c341_0, e341, hx341_0, hl341_0, hi341_0⟩ := at_L1 (Kd.S_reads' HO_4.out).2.2 x7_2 p341 q341
                obtain rfl : ad339 = ad341 := (by injection e341)
                obtain ⟨ce341, hce341, hMe341, hcc341⟩ := Kd.S_get HO_4.out [] x7_2 p341 (by first | exact q341 | exact of_decide_eq_true (by first | (with_reducible assumption) | assumption) | (have e_ := (Kd.S_reads' HO_4.out).1; omega))
                obtain ⟨ve341_0, rfl, ge341_0⟩ := hMe341
                have hv341_0 := hcc341 0 _ rfl
                rw [Nat.add_zero, show ((Kd.slice 3 (Kd.int .i64))).sz = 1 from rfl, Nat.mul_one] at hv341_0
                replace hv341_0 := Option.some.inj (hv341_0.symm.trans hx341_0)
                rw [hv341_0] at ge341_0
                have HL341_0 := Aside0.mk (show Kd.R (Kd.int .i64) 3 _ _ _ _ (rd_L1 t325 x7_2) from ge341_0)
                clear hv341_0 ge341_0
                clear hcc341 hce341
                have HR341_0 := Aside0.mk hi341_0
                have HC341_0 := Aside0.mk hl341_0
                clear hi341_0 hl341_0
                replace p341 := eq_true p341
                replace q341 := eq_true q341
                have ea_ := Option.some.inj (hx340_0.symm.trans hx341_0)
                injection ea_ with ea_ en_ ec_
                subst ea_
                subst ec_
                clear en_
                have p342 : 0 ≤ (x8_3 : Int) := of_decide_eq_true (by first | (with_reducible assumption) | assumption)
                have q342 : x8_3 < ((rd_L1 t325 x7_2).length : Int) := of_decide_eq_true (by first | (with_reducible assumption) | assumption)
                obtain ⟨ad342, e342, hx342_0⟩ := Kd.at_int (by repeat (first | (with_reducible exact HR341_0.out) | (with_reducible refine Kd.C_alloc ?_ _) | (with_reducible refine Kd.C_drewN ?_ _) | (with_reducible refine Kd.C_drew ?_) | exact HR341_0.out)) x8_3 p342 q342
                cases e342
                replace p342 := eq_true p342
                replace q342 := eq_true q342
                go_wp2
                go_ret
                exact ⟨by first | rfl | (simp [errW_none, errW_some] <;> rfl) | (simp [*, errW_none, errW_some] <;> rfl), blw_⟩
               ·rw [if_neg c33] at H
                have c33b0 : decide ((rd (rd_L1 t325 x7_2) x8_3) < 0) = false := decide_eq_false c33
                clear c33
                by_cases c34 : (rd (rd_L1 t325 x7_2) x8_3) ≥ (t336.length : Int)
                ·rw [if_pos c34] at H
                 have c34b0 : decide ((t336.length : Int) ≤ (rd (rd_L1 t325 x7_2) x8_3)) = true := decide_eq_true c34
                 clear c34
                 obtain rfl := Option.some.inj H
                 have p340 : 0 ≤ (x7_2 : Int) := of_decide_eq_true (by first | (with_reducible assumption) | assumption)
                 have q340 : x7_2 < (t325.length : Int) := of_decide_eq_true (by first | (with_reducible assumption) | assumption)
                 obtain ⟨ad340, A340_0, c340_0, e340, hx340_0, hl340_0, hi340_0⟩ := at_L1 (Kd.S_reads' HO_4.out).2.2 x7_2 p340 q340
                 obtain rfl : ad339 = ad340 := (by injection e340)
                 obtain ⟨ce340, hce340, hMe340, hcc340⟩ := Kd.S_get HO_4.out [] x7_2 p340 (by first | exact q340 | exact of_decide_eq_true (by first | (with_reducible assumption) | assumption) | (have e_ := (Kd.S_reads' HO_4.out).1; omega))
                 obtain ⟨ve340_0, rfl, ge340_0⟩ := hMe340
                 have hv340_0 := hcc340 0 _ rfl
                 rw [Nat.add_zero, show ((Kd.slice 3 (Kd.int .i64))).sz = 1 from rfl, Nat.mul_one] at hv340_0
                 replace hv340_0 := Option.some.inj (hv340_0.symm.trans hx340_0)
                 rw [hv340_0] at ge340_0
                 have HL340_0 := Aside0.mk (show Kd.R (Kd.int .i64) 3 _ _ _ _ (rd_L1 t325 x7_2) from ge340_0)
                 clear hv340_0 ge340_0
                 clear hcc340 hce340
                 have HR340_0 := Aside0.mk hi340_0
                 have HC340_0 := Aside0.mk hl340_0
                 clear hi340_0 hl340_0
                 replace p340 := eq_true p340
                 replace q340 := eq_true q340
                 have p341 : 0 ≤ (x7_2 : Int) := of_decide_eq_true (by first | (with_reducible assumption) | assumption)
                 have q341 : x7_2 < (t325.length : Int) := of_decide_eq_true (by first | (with_reducible assumption) | assumption)
                 obtain ⟨ad341, A341_0, c341_0, e341, hx341_0, hl341_0, hi341_0⟩ := at_L1 (Kd.S_reads' HO_4.out).2.2 x7_2 p341 q341
                 obtain rfl : ad339 = ad341 := (by injection e341)
                 obtain ⟨ce341, hce341, hMe341, hcc341⟩ := Kd.S_get HO_4.out [] x7_2 p341 (by first | exact q341 | exact of_decide_eq_true (by first | (with_reducible assumption) | assumption) | (have e_ := (Kd.S_reads' HO_4.out).1; omega))
                 obtain ⟨ve341_0, rfl, ge341_0⟩ := hMe341
                 have hv341_0 := hcc341 0 _ rfl
                 rw [Nat.add_zero, show ((Kd.slice 3 (Kd.int .i64))).sz = 1 from rfl, Nat.mul_one] at hv341_0
                 replace hv341_0 := Option.some.inj (hv341_0.symm.trans hx341_0)
                 rw [hv341_0] at ge341_0
                 have HL341_0 := Aside0.mk (show Kd.R (Kd.int .i64) 3 _ _ _ _ (rd_L1 t325 x7_2) from ge341_0)
                 clear hv341_0 ge341_0
                 clear hcc341 hce341
                 have HR341_0 := Aside0.mk hi341_0
                 have HC341_0 := Aside0.mk hl341_0
                 clear hi341_0 hl341_0
                 replace p341 := eq_true p341
                 replace q341 := eq_true q341
                 have ea_ := Option.some.inj (hx340_0.symm.trans hx341_0)
                 injection ea_ with ea_ en_ ec_
                 subst ea_
                 subst ec_
                 clear en_
                 have p342 : 0 ≤ (x8_3 : Int) := of_decide_eq_true (by first | (with_reducible assumption) | assumption)
                 have q342 : x8_3 < ((rd_L1 t325 x7_2).length : Int) := of_decide_eq_true (by first | (with_reducible assumption) | assumption)
                 obtain ⟨ad342, e342, hx342_0⟩ := Kd.at_int (by repeat (first | (with_reducible exact HR341_0.out) | (with_reducible refine Kd.C_alloc ?_ _) | (with_reducible refine Kd.C_drewN ?_ _) | (with_reducible refine Kd.C_drew ?_) | exact HR341_0.out)) x8_3 p342 q342
                 cases e342
                 replace p342 := eq_true p342
                 replace q342 := eq_true q342
                 obtain ⟨Ao35, co35, eo35⟩ := Kd.R_slice HO_5.out
                 subst eo35
                 go_wp2
                 go_ret
                 exact ⟨by first | rfl | (simp [errW_none, errW_some] <;> rfl) | (simp [*, errW_none, errW_some] <;> rfl), blw_⟩
                ·rw [if_neg c34] at H
                 have c34b0 : decide ((t336.length : Int) ≤ (rd (rd_L1 t325 x7_2) x8_3)) = false := decide_eq_false c34
                 clear c34
                 by_cases c36 : 0 ≤ (rd (rd_L1 t325 x7_2) x8_3)
                 ·rw [if_pos c36] at H
                  have c36b0 : decide (0 ≤ (rd (rd_L1 t325 x7_2) x8_3)) = true := decide_eq_true c36
                  clear c36
                  by_cases c37 : (rd (rd_L1 t325 x7_2) x8_3) < (t336.length : Int)
                  ·rw [if_pos c37] at H
                   have c37b0 : decide ((rd (rd_L1 t325 x7_2) x8_3) < (t336.length : Int)) = true := decide_eq_true c37
                   clear c37
                   by_cases c38 : (rd t336 (rd (rd_L1 t325 x7_2) x8_3)) = x7_2
                   ·rw [if_pos c38] at H
                    have c38b0 : ((rd t336 (rd (rd_L1 t325 x7_2) x8_3)) == x7_2) = true := beq_iff_eq.mpr c38
                    have c38b1 : ((rd t336 (rd (rd_L1 t325 x7_2) x8_3)) != x7_2) = false := bne_eq_false_iff_eq.mpr c38
                    clear c38
                    by_cases c39 : x8_3 > 0
                    ·rw [if_pos c39] at H
                     have c39b0 : decide (0 < x8_3) = true := decide_eq_true c39
                     clear c39
                     obtain ⟨ji40, hji40⟩ : ∃ j_ : Int, (wrap64 (x8_3 - 1)) = j_ := ⟨_, rfl⟩
                     replace H : (if 0 ≤ (ji40) then (if (ji40) < ((rd_L1 t325 x7_2).length : Int) then (if (rd (rd_L1 t325 x7_2) x8_3) ≤ (rd (rd_L1 t325 x7_2) (ji40)) then (some false) else (laws_FnStagesOf.l1 k3 t322 t325 t336 (wrap64 (x6_2 + ((rd_L1 t325 x7_2).length : Int))) x7_2 (wrap64 (x8_3 + 1)))) else (none)) else (none)) = some r := by first | (rw [hji40] at H; exact H) | (simp only [hji40] at H ⊢; exact H)
                     have hji40w : (IntKind.i64.wrap (x8_3 - 1)) = ji40 := (i64_w _).trans hji40
                     by_cases c41 : 0 ≤ (ji40)
                     ·rw [if_pos c41] at H
                      have c41b0 : decide (0 ≤ (ji40)) = true := decide_eq_true c41
                      clear c41
                      by_cases c42 : (ji40) < ((rd_L1 t325 x7_2).length : Int)
                      ·rw [if_pos c42] at H
                       have c42b0 : decide ((ji40) < ((rd_L1 t325 x7_2).length : Int)) = true := decide_eq_true c42
                       clear c42
                       by_cases c43 : (rd (rd_L1 t325 x7_2) x8_3) ≤ (rd (rd_L1 t325 x7_2) (ji40))
                       ·rw [if_pos c43] at H
                        have c43b0 : decide ((rd (rd_L1 t325 x7_2) x8_3) ≤ (rd (rd_L1 t325 x7_2) (ji40))) = true := decide_eq_true c43
                        clear c43
                        obtain rfl := Option.some.inj H
                        have p340 : 0 ≤ (x7_2 : Int) := of_decide_eq_true (by first | (with_reducible assumption) | assumption)
                        have q340 : x7_2 < (t325.length : Int) := of_decide_eq_true (by first | (with_reducible assumption) | assumption)
                        obtain ⟨ad340, A340_0, c340_0, e340, hx340_0, hl340_0, hi340_0⟩ := at_L1 (Kd.S_reads' HO_4.out).2.2 x7_2 p340 q340
                        obtain rfl : ad339 = ad340 := (by injection e340)
                        obtain ⟨ce340, hce340, hMe340, hcc340⟩ := Kd.S_get HO_4.out [] x7_2 p340 (by first | exact q340 | exact of_decide_eq_true (by first | (with_reducible assumption) | assumption) | (have e_ := (Kd.S_reads' HO_4.out).1; omega))
                        obtain ⟨ve340_0, rfl, ge340_0⟩ := hMe340
                        have hv340_0 := hcc340 0 _ rfl
                        rw [Nat.add_zero, show ((Kd.slice 3 (Kd.int .i64))).sz = 1 from rfl, Nat.mul_one] at hv340_0
                        replace hv340_0 := Option.some.inj (hv340_0.symm.trans hx340_0)
                        rw [hv340_0] at ge340_0
                        have HL340_0 := Aside0.mk (show Kd.R (Kd.int .i64) 3 _ _ _ _ (rd_L1 t325 x7_2) from ge340_0)
                        clear hv340_0 ge340_0
                        clear hcc340 hce340
                        have HR340_0 := Aside0.mk hi340_0
                        have HC340_0 := Aside0.mk hl340_0
                        clear hi340_0 hl340_0
                        replace p340 := eq_true p340
                        replace q340 := eq_true q340
                        have p341 : 0 ≤ (x7_2 : Int) := of_decide_eq_true (by first | (with_reducible assumption) | assumption)
                        have q341 : x7_2 < (t325.length : Int) := of_decide_eq_true (by first | (with_reducible assumption) | assumption)
                        obtain ⟨ad341, A341_0, c341_0, e341, hx341_0, hl341_0, hi341_0⟩ := at_L1 (Kd.S_reads' HO_4.out).2.2 x7_2 p341 q341
                        obtain rfl : ad339 = ad341 := (by injection e341)
                        obtain ⟨ce341, hce341, hMe341, hcc341⟩ := Kd.S_get HO_4.out [] x7_2 p341 (by first | exact q341 | exact of_decide_eq_true (by first | (with_reducible assumption) | assumption) | (have e_ := (Kd.S_reads' HO_4.out).1; omega))
                        obtain ⟨ve341_0, rfl, ge341_0⟩ := hMe341
                        have hv341_0 := hcc341 0 _ rfl
                        rw [Nat.add_zero, show ((Kd.slice 3 (Kd.int .i64))).sz = 1 from rfl, Nat.mul_one] at hv341_0
                        replace hv341_0 := Option.some.inj (hv341_0.symm.trans hx341_0)
                        rw [hv341_0] at ge341_0
                        have HL341_0 := Aside0.mk (show Kd.R (Kd.int .i64) 3 _ _ _ _ (rd_L1 t325 x7_2) from ge341_0)
                        clear hv341_0 ge341_0
                        clear hcc341 hce341
                        have HR341_0 := Aside0.mk hi341_0
                        have HC341_0 := Aside0.mk hl341_0
                        clear hi341_0 hl341_0
                        replace p341 := eq_true p341
                        replace q341 := eq_true q341
                        have ea_ := Option.some.inj (hx340_0.symm.trans hx341_0)
                        injection ea_ with ea_ en_ ec_
                        subst ea_
                        subst ec_
                        clear en_
                        have p342 : 0 ≤ (x8_3 : Int) := of_decide_eq_true (by first | (with_reducible assumption) | assumption)
                        have q342 : x8_3 < ((rd_L1 t325 x7_2).length : Int) := of_decide_eq_true (by first | (with_reducible assumption) | assumption)
                        obtain ⟨ad342, e342, hx342_0⟩ := Kd.at_int (by repeat (first | (with_reducible exact HR341_0.out) | (with_reducible refine Kd.C_alloc ?_ _) | (with_reducible refine Kd.C_drewN ?_ _) | (with_reducible refine Kd.C_drew ?_) | exact HR341_0.out)) x8_3 p342 q342
                        cases e342
                        replace p342 := eq_true p342
                        replace q342 := eq_true q342
                        obtain ⟨Ao44, co44, eo44⟩ := Kd.R_slice HO_5.out
                        subst eo44
                        have p343 : 0 ≤ ((rd (rd_L1 t325 x7_2) x8_3) : Int) := of_decide_eq_true (by first | (with_reducible assumption) | assumption)
                        have q343 : (rd (rd_L1 t325 x7_2) x8_3) < (t336.length : Int) := of_decide_eq_true (by first | (with_reducible assumption) | assumption)
                        obtain ⟨ad343, e343, hx343_0⟩ := Kd.at_int (Kd.R_reads' HO_5.out).2.2 (rd (rd_L1 t325 x7_2) x8_3) p343 q343
                        cases e343
                        replace p343 := eq_true p343
                        replace q343 := eq_true q343
                        have p344 : 0 ≤ (x7_2 : Int) := of_decide_eq_true (by first | (with_reducible assumption) | assumption)
                        have q344 : x7_2 < (t325.length : Int) := of_decide_eq_true (by first | (with_reducible assumption) | assumption)
                        obtain ⟨ad344, A344_0, c344_0, e344, hx344_0, hl344_0, hi344_0⟩ := at_L1 (Kd.S_reads' HO_4.out).2.2 x7_2 p344 q344
                        obtain rfl : ad339 = ad344 := (by injection e344)
                        obtain ⟨ce344, hce344, hMe344, hcc344⟩ := Kd.S_get HO_4.out [] x7_2 p344 (by first | exact q344 | exact of_decide_eq_true (by first | (with_reducible assumption) | assumption) | (have e_ := (Kd.S_reads' HO_4.out).1; omega))
                        obtain ⟨ve344_0, rfl, ge344_0⟩ := hMe344
                        have hv344_0 := hcc344 0 _ rfl
                        rw [Nat.add_zero, show ((Kd.slice 3 (Kd.int .i64))).sz = 1 from rfl, Nat.mul_one] at hv344_0
                        replace hv344_0 := Option.some.inj (hv344_0.symm.trans hx344_0)
                        rw [hv344_0] at ge344_0
                        have HL344_0 := Aside0.mk (show Kd.R (Kd.int .i64) 3 _ _ _ _ (rd_L1 t325 x7_2) from ge344_0)
                        clear hv344_0 ge344_0
                        clear hcc344 hce344
                        have HR344_0 := Aside0.mk hi344_0
                        have HC344_0 := Aside0.mk hl344_0
                        clear hi344_0 hl344_0
                        replace p344 := eq_true p344
                        replace q344 := eq_true q344
                        have ea_ := Option.some.inj (hx340_0.symm.trans hx344_0)
                        injection ea_ with ea_ en_ ec_
                        subst ea_
                        subst ec_
                        clear en_
                        have p345 : 0 ≤ ((ji40) : Int) := of_decide_eq_true (by first | (with_reducible assumption) | assumption)
                        have q345 : (ji40) < ((rd_L1 t325 x7_2).length : Int) := of_decide_eq_true (by first | (with_reducible assumption) | assumption)
                        obtain ⟨ad345, e345, hx345_0⟩ := Kd.at_int (by repeat (first | (with_reducible exact HR344_0.out) | (with_reducible refine Kd.C_alloc ?_ _) | (with_reducible refine Kd.C_drewN ?_ _) | (with_reducible refine Kd.C_drew ?_) | exact HR344_0.out)) (ji40) p345 q345
                        cases e345
                        replace p345 := eq_true p345
                        replace q345 := eq_true q345
                        go_wp2
                        go_ret
                        exact ⟨by first | rfl | (simp [errW_none, errW_some] <;> rfl) | (simp only [← hji40]; first | rfl | (simp [errW_none, errW_some] <;> rfl)) | (simp [*, errW_none, errW_some] <;> rfl), blw_⟩
                       ·rw [if_neg c43] at H
                        have c43b0 : decide ((rd (rd_L1 t325 x7_2) x8_3) ≤ (rd (rd_L1 t325 x7_2) (ji40))) = false := decide_eq_false c43
                        clear c43
                        have H' := Aside0.mk H
                        clear H
                        have p340 : 0 ≤ (x7_2 : Int) := of_decide_eq_true (by first | (with_reducible assumption) | assumption)
                        have q340 : x7_2 < (t325.length : Int) := of_decide_eq_true (by first | (with_reducible assumption) | assumption)
                        obtain ⟨ad340, A340_0, c340_0, e340, hx340_0, hl340_0, hi340_0⟩ := at_L1 (Kd.S_reads' HO_4.out).2.2 x7_2 p340 q340
                        obtain rfl : ad339 = ad340 := (by injection e340)
                        obtain ⟨ce340, hce340, hMe340, hcc340⟩ := Kd.S_get HO_4.out [] x7_2 p340 (by first | exact q340 | exact of_decide_eq_true (by first | (with_reducible assumption) | assumption) | (have e_ := (Kd.S_reads' HO_4.out).1; omega))
                        obtain ⟨ve340_0, rfl, ge340_0⟩ := hMe340
                        have hv340_0 := hcc340 0 _ rfl
                        rw [Nat.add_zero, show ((Kd.slice 3 (Kd.int .i64))).sz = 1 from rfl, Nat.mul_one] at hv340_0
                        replace hv340_0 := Option.some.inj (hv340_0.symm.trans hx340_0)
                        rw [hv340_0] at ge340_0
                        have HL340_0 := Aside0.mk (show Kd.R (Kd.int .i64) 3 _ _ _ _ (rd_L1 t325 x7_2) from ge340_0)
                        clear hv340_0 ge340_0
                        clear hcc340 hce340
                        have HR340_0 := Aside0.mk hi340_0
                        have HC340_0 := Aside0.mk hl340_0
                        clear hi340_0 hl340_0
                        replace p340 := eq_true p340
                        replace q340 := eq_true q340
                        have p341 : 0 ≤ (x7_2 : Int) := of_decide_eq_true (by first | (with_reducible assumption) | assumption)
                        have q341 : x7_2 < (t325.length : Int) := of_decide_eq_true (by first | (with_reducible assumption) | assumption)
                        obtain ⟨ad341, A341_0, c341_0, e341, hx341_0, hl341_0, hi341_0⟩ := at_L1 (Kd.S_reads' HO_4.out).2.2 x7_2 p341 q341
                        obtain rfl : ad339 = ad341 := (by injection e341)
                        obtain ⟨ce341, hce341, hMe341, hcc341⟩ := Kd.S_get HO_4.out [] x7_2 p341 (by first | exact q341 | exact of_decide_eq_true (by first | (with_reducible assumption) | assumption) | (have e_ := (Kd.S_reads' HO_4.out).1; omega))
                        obtain ⟨ve341_0, rfl, ge341_0⟩ := hMe341
                        have hv341_0 := hcc341 0 _ rfl
                        rw [Nat.add_zero, show ((Kd.slice 3 (Kd.int .i64))).sz = 1 from rfl, Nat.mul_one] at hv341_0
                        replace hv341_0 := Option.some.inj (hv341_0.symm.trans hx341_0)
                        rw [hv341_0] at ge341_0
                        have HL341_0 := Aside0.mk (show Kd.R (Kd.int .i64) 3 _ _ _ _ (rd_L1 t325 x7_2) from ge341_0)
                        clear hv341_0 ge341_0
                        clear hcc341 hce341
                        have HR341_0 := Aside0.mk hi341_0
                        have HC341_0 := Aside0.mk hl341_0
                        clear hi341_0 hl341_0
                        replace p341 := eq_true p341
                        replace q341 := eq_true q341
                        have ea_ := Option.some.inj (hx340_0.symm.trans hx341_0)
                        injection ea_ with ea_ en_ ec_
                        subst ea_
                        subst ec_
                        clear en_
                        have p342 : 0 ≤ (x8_3 : Int) := of_decide_eq_true (by first | (with_reducible assumption) | assumption)
                        have q342 : x8_3 < ((rd_L1 t325 x7_2).length : Int) := of_decide_eq_true (by first | (with_reducible assumption) | assumption)
                        obtain ⟨ad342, e342, hx342_0⟩ := Kd.at_int (by repeat (first | (with_reducible exact HR341_0.out) | (with_reducible refine Kd.C_alloc ?_ _) | (with_reducible refine Kd.C_drewN ?_ _) | (with_reducible refine Kd.C_drew ?_) | exact HR341_0.out)) x8_3 p342 q342
                        cases e342
                        replace p342 := eq_true p342
                        replace q342 := eq_true q342
                        obtain ⟨Ao45, co45, eo45⟩ := Kd.R_slice HO_5.out
                        subst eo45
                        have p343 : 0 ≤ ((rd (rd_L1 t325 x7_2) x8_3) : Int) := of_decide_eq_true (by first | (with_reducible assumption) | assumption)
                        have q343 : (rd (rd_L1 t325 x7_2) x8_3) < (t336.length : Int) := of_decide_eq_true (by first | (with_reducible assumption) | assumption)
                        obtain ⟨ad343, e343, hx343_0⟩ := Kd.at_int (Kd.R_reads' HO_5.out).2.2 (rd (rd_L1 t325 x7_2) x8_3) p343 q343
                        cases e343
                        replace p343 := eq_true p343
                        replace q343 := eq_true q343
                        have p344 : 0 ≤ (x7_2 : Int) := of_decide_eq_true (by first | (with_reducible assumption) | assumption)
                        have q344 : x7_2 < (t325.length : Int) := of_decide_eq_true (by first | (with_reducible assumption) | assumption)
                        obtain ⟨ad344, A344_0, c344_0, e344, hx344_0, hl344_0, hi344_0⟩ := at_L1 (Kd.S_reads' HO_4.out).2.2 x7_2 p344 q344
                        obtain rfl : ad339 = ad344 := (by injection e344)
                        obtain ⟨ce344, hce344, hMe344, hcc344⟩ := Kd.S_get HO_4.out [] x7_2 p344 (by first | exact q344 | exact of_decide_eq_true (by first | (with_reducible assumption) | assumption) | (have e_ := (Kd.S_reads' HO_4.out).1; omega))
                        obtain ⟨ve344_0, rfl, ge344_0⟩ := hMe344
                        have hv344_0 := hcc344 0 _ rfl
                        rw [Nat.add_zero, show ((Kd.slice 3 (Kd.int .i64))).sz = 1 from rfl, Nat.mul_one] at hv344_0
                        replace hv344_0 := Option.some.inj (hv344_0.symm.trans hx344_0)
                        rw [hv344_0] at ge344_0
                        have HL344_0 := Aside0.mk (show Kd.R (Kd.int .i64) 3 _ _ _ _ (rd_L1 t325 x7_2) from ge344_0)
                        clear hv344_0 ge344_0
                        clear hcc344 hce344
                        have HR344_0 := Aside0.mk hi344_0
                        have HC344_0 := Aside0.mk hl344_0
                        clear hi344_0 hl344_0
                        replace p344 := eq_true p344
                        replace q344 := eq_true q344
                        have ea_ := Option.some.inj (hx340_0.symm.trans hx344_0)
                        injection ea_ with ea_ en_ ec_
                        subst ea_
                        subst ec_
                        clear en_
                        have p345 : 0 ≤ ((ji40) : Int) := of_decide_eq_true (by first | (with_reducible assumption) | assumption)
                        have q345 : (ji40) < ((rd_L1 t325 x7_2).length : Int) := of_decide_eq_true (by first | (with_reducible assumption) | assumption)
                        obtain ⟨ad345, e345, hx345_0⟩ := Kd.at_int (by repeat (first | (with_reducible exact HR344_0.out) | (with_reducible refine Kd.C_alloc ?_ _) | (with_reducible refine Kd.C_drewN ?_ _) | (with_reducible refine Kd.C_drew ?_) | exact HR344_0.out)) (ji40) p345 q345
                        cases e345
                        replace p345 := eq_true p345
                        replace q345 := eq_true q345
                        go_wp2
                        go_roundg k3
                        case measure => have := HJ4.out; have := HK2.out; have := HK3.out; omega
                        case rel => exact ⟨(wrap64 (x8_3 + 1)), (by first | rfl | (simp; done) | (simp [*]; done)), H', ⟨by have := HJ4.out; have := HK2.out; have := HK3.out; omega⟩, ⟨by (with_reducible repeat (first | apply Kd.V_alloc | apply Kd.V_drewN | apply Kd.V_drew)); exact HO_3.out⟩, ⟨by (with_reducible repeat (first | apply Kd.S_alloc | apply Kd.S_drewN | apply Kd.S_drew)); exact HO_4.out⟩, ⟨rw_ HO_5.out⟩, ⟨by repeat (first | (with_reducible exact HR339_0.out) | (with_reducible refine Kd.C_alloc ?_ _) | (with_reducible refine Kd.C_drewN ?_ _) | (with_reducible refine Kd.C_drew ?_) | exact HR339_0.out)⟩, ⟨blw_⟩⟩
                      ·rw [if_neg c42] at H
                       exact absurd H (by simp)
                     ·rw [if_neg c41] at H
                      exact absurd H (by simp)
                    ·rw [if_neg c39] at H
                     have c39b0 : decide (0 < x8_3) = false := decide_eq_false c39
                     clear c39
                     have H' := Aside0.mk H
                     clear H
                     have p340 : 0 ≤ (x7_2 : Int) := of_decide_eq_true (by first | (with_reducible assumption) | assumption)
                     have q340 : x7_2 < (t325.length : Int) := of_decide_eq_true (by first | (with_reducible assumption) | assumption)
                     obtain ⟨ad340, A340_0, c340_0, e340, hx340_0, hl340_0, hi340_0⟩ := at_L1 (Kd.S_reads' HO_4.out).2.2 x7_2 p340 q340
                     obtain rfl : ad339 = ad340 := (by injection e340)
                     obtain ⟨ce340, hce340, hMe340, hcc340⟩ := Kd.S_get HO_4.out [] x7_2 p340 (by first | exact q340 | exact of_decide_eq_true (by first | (with_reducible assumption) | assumption) | (have e_ := (Kd.S_reads' HO_4.out).1; omega))
                     obtain ⟨ve340_0, rfl, ge340_0⟩ := hMe340
                     have hv340_0 := hcc340 0 _ rfl
                     rw [Nat.add_zero, show ((Kd.slice 3 (Kd.int .i64))).sz = 1 from rfl, Nat.mul_one] at hv340_0
                     replace hv340_0 := Option.some.inj (hv340_0.symm.trans hx340_0)
                     rw [hv340_0] at ge340_0
                     have HL340_0 := Aside0.mk (show Kd.R (Kd.int .i64) 3 _ _ _ _ (rd_L1 t325 x7_2) from ge340_0)
                     clear hv340_0 ge340_0
                     clear hcc340 hce340
                     have HR340_0 := Aside0.mk hi340_0
                     have HC340_0 := Aside0.mk hl340_0
                     clear hi340_0 hl340_0
                     replace p340 := eq_true p340
                     replace q340 := eq_true q340
                     have p341 : 0 ≤ (x7_2 : Int) := of_decide_eq_true (by first | (with_reducible assumption) | assumption)
                     have q341 : x7_2 < (t325.length : Int) := of_decide_eq_true (by first | (with_reducible assumption) | assumption)
                     obtain ⟨ad341, A341_0, c341_0, e341, hx341_0, hl341_0, hi341_0⟩ := at_L1 (Kd.S_reads' HO_4.out).2.2 x7_2 p341 q341
                     obtain rfl : ad339 = ad341 := (by injection e341)
                     obtain ⟨ce341, hce341, hMe341, hcc341⟩ := Kd.S_get HO_4.out [] x7_2 p341 (by first | exact q341 | exact of_decide_eq_true (by first | (with_reducible assumption) | assumption) | (have e_ := (Kd.S_reads' HO_4.out).1; omega))
                     obtain ⟨ve341_0, rfl, ge341_0⟩ := hMe341
                     have hv341_0 := hcc341 0 _ rfl
                     rw [Nat.add_zero, show ((Kd.slice 3 (Kd.int .i64))).sz = 1 from rfl, Nat.mul_one] at hv341_0
                     replace hv341_0 := Option.some.inj (hv341_0.symm.trans hx341_0)
                     rw [hv341_0] at ge341_0
                     have HL341_0 := Aside0.mk (show Kd.R (Kd.int .i64) 3 _ _ _ _ (rd_L1 t325 x7_2) from ge341_0)
                     clear hv341_0 ge341_0
                     clear hcc341 hce341
                     have HR341_0 := Aside0.mk hi341_0
                     have HC341_0 := Aside0.mk hl341_0
                     clear hi341_0 hl341_0
                     replace p341 := eq_true p341
                     replace q341 := eq_true q341
                     have ea_ := Option.some.inj (hx340_0.symm.trans hx341_0)
                     injection ea_ with ea_ en_ ec_
                     subst ea_
                     subst ec_
                     clear en_
                     have p342 : 0 ≤ (x8_3 : Int) := of_decide_eq_true (by first | (with_reducible assumption) | assumption)
                     have q342 : x8_3 < ((rd_L1 t325 x7_2).length : Int) := of_decide_eq_true (by first | (with_reducible assumption) | assumption)
                     obtain ⟨ad342, e342, hx342_0⟩ := Kd.at_int (by repeat (first | (with_reducible exact HR341_0.out) | (with_reducible refine Kd.C_alloc ?_ _) | (with_reducible refine Kd.C_drewN ?_ _) | (with_reducible refine Kd.C_drew ?_) | exact HR341_0.out)) x8_3 p342 q342
                     cases e342
                     replace p342 := eq_true p342
                     replace q342 := eq_true q342
                     obtain ⟨Ao46, co46, eo46⟩ := Kd.R_slice HO_5.out
                     subst eo46
                     have p343 : 0 ≤ ((rd (rd_L1 t325 x7_2) x8_3) : Int) := of_decide_eq_true (by first | (with_reducible assumption) | assumption)
                     have q343 : (rd (rd_L1 t325 x7_2) x8_3) < (t336.length : Int) := of_decide_eq_true (by first | (with_reducible assumption) | assumption)
                     obtain ⟨ad343, e343, hx343_0⟩ := Kd.at_int (Kd.R_reads' HO_5.out).2.2 (rd (rd_L1 t325 x7_2) x8_3) p343 q343
                     cases e343
                     replace p343 := eq_true p343
                     replace q343 := eq_true q343
                     go_wp2
                     go_roundg k3
                     case measure => have := HJ4.out; have := HK2.out; have := HK3.out; omega
                     case rel => exact ⟨(wrap64 (x8_3 + 1)), (by first | rfl | (simp; done) | (simp [*]; done)), H', ⟨by have := HJ4.out; have := HK2.out; have := HK3.out; omega⟩, ⟨by (with_reducible repeat (first | apply Kd.V_alloc | apply Kd.V_drewN | apply Kd.V_drew)); exact HO_3.out⟩, ⟨by (with_reducible repeat (first | apply Kd.S_alloc | apply Kd.S_drewN | apply Kd.S_drew)); exact HO_4.out⟩, ⟨rw_ HO_5.out⟩, ⟨by repeat (first | (with_reducible exact HR339_0.out) | (with_reducible refine Kd.C_alloc ?_ _) | (with_reducible refine Kd.C_drewN ?_ _) | (with_reducible refine Kd.C_drew ?_) | exact HR339_0.out)⟩, ⟨blw_⟩⟩
                   ·rw [if_neg c38] at H
                    have c38b0 : ((rd t336 (rd (rd_L1 t325 x7_2) x8_3)) == x7_2) = false := beq_eq_false_iff_ne.mpr c38
                    have c38b1 : ((rd t336 (rd (rd_L1 t325 x7_2) x8_3)) != x7_2) = true := bne_iff_ne.mpr c38
                    obtain rfl := Option.some.inj H
                    have p340 : 0 ≤ (x7_2 : Int) := of_decide_eq_true (by first | (with_reducible assumption) | assumption)
                    have q340 : x7_2 < (t325.length : Int) := of_decide_eq_true (by first | (with_reducible assumption) | assumption)
                    obtain ⟨ad340, A340_0, c340_0, e340, hx340_0, hl340_0, hi340_0⟩ := at_L1 (Kd.S_reads' HO_4.out).2.2 x7_2 p340 q340
                    obtain rfl : ad339 = ad340 := (by injection e340)
                    obtain ⟨ce340, hce340, hMe340, hcc340⟩ := Kd.S_get HO_4.out [] x7_2 p340 (by first | exact q340 | exact of_decide_eq_true (by first | (with_reducible assumption) | assumption) | (have e_ := (Kd.S_reads' HO_4.out).1; omega))
                    obtain ⟨ve340_0, rfl, ge340_0⟩ := hMe340
                    have hv340_0 := hcc340 0 _ rfl
                    rw [Nat.add_zero, show ((Kd.slice 3 (Kd.int .i64))).sz = 1 from rfl, Nat.mul_one] at hv340_0
                    replace hv340_0 := Option.some.inj (hv340_0.symm.trans hx340_0)
                    rw [hv340_0] at ge340_0
                    have HL340_0 := Aside0.mk (show Kd.R (Kd.int .i64) 3 _ _ _ _ (rd_L1 t325 x7_2) from ge340_0)
                    clear hv340_0 ge340_0
                    clear hcc340 hce340
                    have HR340_0 := Aside0.mk hi340_0
                    have HC340_0 := Aside0.mk hl340_0
                    clear hi340_0 hl340_0
                    replace p340 := eq_true p340
                    replace q340 := eq_true q340
                    have p341 : 0 ≤ (x7_2 : Int) := of_decide_eq_true (by first | (with_reducible assumption) | assumption)
                    have q341 : x7_2 < (t325.length : Int) := of_decide_eq_true (by first | (with_reducible assumption) | assumption)
                    obtain ⟨ad341, A341_0, c341_0, e341, hx341_0, hl341_0, hi341_0⟩ := at_L1 (Kd.S_reads' HO_4.out).2.2 x7_2 p341 q341
                    obtain rfl : ad339 = ad341 := (by injection e341)
                    obtain ⟨ce341, hce341, hMe341, hcc341⟩ := Kd.S_get HO_4.out [] x7_2 p341 (by first | exact q341 | exact of_decide_eq_true (by first | (with_reducible assumption) | assumption) | (have e_ := (Kd.S_reads' HO_4.out).1; omega))
                    obtain ⟨ve341_0, rfl, ge341_0⟩ := hMe341
                    have hv341_0 := hcc341 0 _ rfl
                    rw [Nat.add_zero, show ((Kd.slice 3 (Kd.int .i64))).sz = 1 from rfl, Nat.mul_one] at hv341_0
                    replace hv341_0 := Option.some.inj (hv341_0.symm.trans hx341_0)
                    rw [hv341_0] at ge341_0
                    have HL341_0 := Aside0.mk (show Kd.R (Kd.int .i64) 3 _ _ _ _ (rd_L1 t325 x7_2) from ge341_0)
                    clear hv341_0 ge341_0
                    clear hcc341 hce341
                    have HR341_0 := Aside0.mk hi341_0
                    have HC341_0 := Aside0.mk hl341_0
                    clear hi341_0 hl341_0
                    replace p341 := eq_true p341
                    replace q341 := eq_true q341
                    have ea_ := Option.some.inj (hx340_0.symm.trans hx341_0)
                    injection ea_ with ea_ en_ ec_
                    subst ea_
                    subst ec_
                    clear en_
                    have p342 : 0 ≤ (x8_3 : Int) := of_decide_eq_true (by first | (with_reducible assumption) | assumption)
                    have q342 : x8_3 < ((rd_L1 t325 x7_2).length : Int) := of_decide_eq_true (by first | (with_reducible assumption) | assumption)
                    obtain ⟨ad342, e342, hx342_0⟩ := Kd.at_int (by repeat (first | (with_reducible exact HR341_0.out) | (with_reducible refine Kd.C_alloc ?_ _) | (with_reducible refine Kd.C_drewN ?_ _) | (with_reducible refine Kd.C_drew ?_) | exact HR341_0.out)) x8_3 p342 q342
                    cases e342
                    replace p342 := eq_true p342
                    replace q342 := eq_true q342
                    obtain ⟨Ao47, co47, eo47⟩ := Kd.R_slice HO_5.out
                    subst eo47
                    have p343 : 0 ≤ ((rd (rd_L1 t325 x7_2) x8_3) : Int) := of_decide_eq_true (by first | (with_reducible assumption) | assumption)
                    have q343 : (rd (rd_L1 t325 x7_2) x8_3) < (t336.length : Int) := of_decide_eq_true (by first | (with_reducible assumption) | assumption)
                    obtain ⟨ad343, e343, hx343_0⟩ := Kd.at_int (Kd.R_reads' HO_5.out).2.2 (rd (rd_L1 t325 x7_2) x8_3) p343 q343
                    cases e343
                    replace p343 := eq_true p343
                    replace q343 := eq_true q343
                    go_wp2
                    go_ret
                    exact ⟨by first | rfl | (simp [errW_none, errW_some] <;> rfl) | (simp [*, errW_none, errW_some] <;> rfl), blw_⟩
                  ·rw [if_neg c37] at H
                   exact absurd H (by simp)
                 ·rw [if_neg c36] at H
                  exact absurd H (by simp)
              ·rw [if_neg c32] at H
               exact absurd H (by simp)
             ·rw [if_neg c31] at H
              have c31b0 : decide (x8_3 < ((rd_L1 t325 x7_2).length : Int)) = false := decide_eq_false c31
              clear c31
              by_cases c48 : ((rd_L1 t325 x7_2).length : Int) = 0
              ·rw [if_pos c48] at H
               have c48b0 : (((rd_L1 t325 x7_2).length : Int) == 0) = true := beq_iff_eq.mpr c48
               have c48b1 : (((rd_L1 t325 x7_2).length : Int) != 0) = false := bne_eq_false_iff_eq.mpr c48
               clear c48
               obtain rfl := Option.some.inj H
               have p340 : 0 ≤ (x7_2 : Int) := of_decide_eq_true (by first | (with_reducible assumption) | assumption)
               have q340 : x7_2 < (t325.length : Int) := of_decide_eq_true (by first | (with_reducible assumption) | assumption)
               obtain ⟨ad340, A340_0, c340_0, e340, hx340_0, hl340_0, hi340_0⟩ := at_L1 (Kd.S_reads' HO_4.out).2.2 x7_2 p340 q340
               obtain rfl : ad339 = ad340 := (by injection e340)
               obtain ⟨ce340, hce340, hMe340, hcc340⟩ := Kd.S_get HO_4.out [] x7_2 p340 (by first | exact q340 | exact of_decide_eq_true (by first | (with_reducible assumption) | assumption) | (have e_ := (Kd.S_reads' HO_4.out).1; omega))
               obtain ⟨ve340_0, rfl, ge340_0⟩ := hMe340
               have hv340_0 := hcc340 0 _ rfl
               rw [Nat.add_zero, show ((Kd.slice 3 (Kd.int .i64))).sz = 1 from rfl, Nat.mul_one] at hv340_0
               replace hv340_0 := Option.some.inj (hv340_0.symm.trans hx340_0)
               rw [hv340_0] at ge340_0
               have HL340_0 := Aside0.mk (show Kd.R (Kd.int .i64) 3 _ _ _ _ (rd_L1 t325 x7_2) from ge340_0)
               clear hv340_0 ge340_0
               clear hcc340 hce340
               have HR340_0 := Aside0.mk hi340_0
               have HC340_0 := Aside0.mk hl340_0
               clear hi340_0 hl340_0
               replace p340 := eq_true p340
               replace q340 := eq_true q340
               have p346 : 0 ≤ (x7_2 : Int) := of_decide_eq_true (by first | (with_reducible assumption) | assumption)
               have q346 : x7_2 < (t325.length : Int) := of_decide_eq_true (by first | (with_reducible assumption) | assumption)
               obtain ⟨ad346, A346_0, c346_0, e346, hx346_0, hl346_0, hi346_0⟩ := at_L1 (Kd.S_reads' HO_4.out).2.2 x7_2 p346 q346
               obtain rfl : ad339 = ad346 := (by injection e346)
               obtain ⟨ce346, hce346, hMe346, hcc346⟩ := Kd.S_get HO_4.out [] x7_2 p346 (by first | exact q346 | exact of_decide_eq_true (by first | (with_reducible assumption) | assumption) | (have e_ := (Kd.S_reads' HO_4.out).1; omega))
               obtain ⟨ve346_0, rfl, ge346_0⟩ := hMe346
               have hv346_0 := hcc346 0 _ rfl
               rw [Nat.add_zero, show ((Kd.slice 3 (Kd.int .i64))).sz = 1 from rfl, Nat.mul_one] at hv346_0
               replace hv346_0 := Option.some.inj (hv346_0.symm.trans hx346_0)
               rw [hv346_0] at ge346_0
               have HL346_0 := Aside0.mk (show Kd.R (Kd.int .i64) 3 _ _ _ _ (rd_L1 t325 x7_2) from ge346_0)
               clear hv346_0 ge346_0
               clear hcc346 hce346
               have HR346_0 := Aside0.mk hi346_0
               have HC346_0 := Aside0.mk hl346_0
               clear hi346_0 hl346_0
               replace p346 := eq_true p346
               replace q346 := eq_true q346
               have ea_ := Option.some.inj (hx340_0.symm.trans hx346_0)
               injection ea_ with ea_ en_ ec_
               subst ea_
               subst ec_
               clear en_
               go_wp2
               go_ret
               exact ⟨by first | rfl | (simp [errW_none, errW_some] <;> rfl) | (simp [*, errW_none, errW_some] <;> rfl), blw_⟩
              ·rw [if_neg c48] at H
               have c48b0 : (((rd_L1 t325 x7_2).length : Int) == 0) = false := beq_eq_false_iff_ne.mpr c48
               have c48b1 : (((rd_L1 t325 x7_2).length : Int) != 0) = true := bne_iff_ne.mpr c48
               have c48b2 : ¬ ((rd_L1 t325 x7_2) = []) := fun h_ => c48 (by rw [h_]; rfl)
               have H' := Aside0.mk H
               clear H
               have p340 : 0 ≤ (x7_2 : Int) := of_decide_eq_true (by first | (with_reducible assumption) | assumption)
               have q340 : x7_2 < (t325.length : Int) := of_decide_eq_true (by first | (with_reducible assumption) | assumption)
               obtain ⟨ad340, A340_0, c340_0, e340, hx340_0, hl340_0, hi340_0⟩ := at_L1 (Kd.S_reads' HO_4.out).2.2 x7_2 p340 q340
               obtain rfl : ad339 = ad340 := (by injection e340)
               obtain ⟨ce340, hce340, hMe340, hcc340⟩ := Kd.S_get HO_4.out [] x7_2 p340 (by first | exact q340 | exact of_decide_eq_true (by first | (with_reducible assumption) | assumption) | (have e_ := (Kd.S_reads' HO_4.out).1; omega))
               obtain ⟨ve340_0, rfl, ge340_0⟩ := hMe340
               have hv340_0 := hcc340 0 _ rfl
               rw [Nat.add_zero, show ((Kd.slice 3 (Kd.int .i64))).sz = 1 from rfl, Nat.mul_one] at hv340_0
               replace hv340_0 := Option.some.inj (hv340_0.symm.trans hx340_0)
               rw [hv340_0] at ge340_0
               have HL340_0 := Aside0.mk (show Kd.R (Kd.int .i64) 3 _ _ _ _ (rd_L1 t325 x7_2) from ge340_0)
               clear hv340_0 ge340_0
               clear hcc340 hce340
               have HR340_0 := Aside0.mk hi340_0
               have HC340_0 := Aside0.mk hl340_0
               clear hi340_0 hl340_0
               replace p340 := eq_true p340
               replace q340 := eq_true q340
               have p346 : 0 ≤ (x7_2 : Int) := of_decide_eq_true (by first | (with_reducible assumption) | assumption)
               have q346 : x7_2 < (t325.length : Int) := of_decide_eq_true (by first | (with_reducible assumption) | assumption)
               obtain ⟨ad346, A346_0, c346_0, e346, hx346_0, hl346_0, hi346_0⟩ := at_L1 (Kd.S_reads' HO_4.out).2.2 x7_2 p346 q346
               obtain rfl : ad339 = ad346 := (by injection e346)
               obtain ⟨ce346, hce346, hMe346, hcc346⟩ := Kd.S_get HO_4.out [] x7_2 p346 (by first | exact q346 | exact of_decide_eq_true (by first | (with_reducible assumption) | assumption) | (have e_ := (Kd.S_reads' HO_4.out).1; omega))
               obtain ⟨ve346_0, rfl, ge346_0⟩ := hMe346
               have hv346_0 := hcc346 0 _ rfl
               rw [Nat.add_zero, show ((Kd.slice 3 (Kd.int .i64))).sz = 1 from rfl, Nat.mul_one] at hv346_0
               replace hv346_0 := Option.some.inj (hv346_0.symm.trans hx346_0)
               rw [hv346_0] at ge346_0
               have HL346_0 := Aside0.mk (show Kd.R (Kd.int .i64) 3 _ _ _ _ (rd_L1 t325 x7_2) from ge346_0)
               clear hv346_0 ge346_0
               clear hcc346 hce346
               have HR346_0 := Aside0.mk hi346_0
               have HC346_0 := Aside0.mk hl346_0
               clear hi346_0 hl346_0
               replace p346 := eq_true p346
               replace q346 := eq_true q346
               have ea_ := Option.some.inj (hx340_0.symm.trans hx346_0)
               injection ea_ with ea_ en_ ec_
               subst ea_
               subst ec_
               clear en_
               go_wp2
               go_roundg k3
               case measure => have := HJ4.out; have := HK2.out; have := HK3.out; omega
               case rel => exact ⟨((wrap64 (x6_2 + ((rd_L1 t325 x7_2).length : Int)))), (wrap64 (x7_2 + 1)), (by first | rfl | (simp; done) | (simp [*]; done)), (by first | rfl | (simp; done) | (simp [*]; done)), H', ⟨by have := HJ4.out; have := HK2.out; have := HK3.out; omega⟩, ⟨by (with_reducible repeat (first | apply Kd.V_alloc | apply Kd.V_drewN | apply Kd.V_drew)); exact HO_3.out⟩, ⟨by (with_reducible repeat (first | apply Kd.S_alloc | apply Kd.S_drewN | apply Kd.S_drew)); exact HO_4.out⟩, ⟨rw_ HO_5.out⟩, ⟨blw_⟩⟩
            ·rw [if_neg c30] at H
             exact absurd H (by simp)
           ·rw [if_neg c29] at H
            exact absurd H (by simp)
        ·rw [if_neg c27] at H
         exact absurd H (by simp)
       ·rw [if_neg c26] at H
        have c26b0 : decide (x7_2 < (t325.length : Int)) = false := decide_eq_false c26
        clear c26
        obtain rfl := Option.some.inj H
        obtain ⟨Ao49, co49, eo49⟩ := Kd.S_slice HO_4.out
        subst eo49
        go_wp2
        go_ret
        exact ⟨by first | rfl | (simp [errW_none, errW_some] <;> rfl) | (simp [*, errW_none, errW_some] <;> rfl), blw_⟩

/-- THE ONE PURE STATEMENT of laws_FnStagesOf: yours. -/
def laws_FnStagesOf.Pure : Prop := ∀ (l0 : List Int), l0.length ≤ maxLen → l0.length * 1 ≤ 140737488351232 → (∀ x ∈ l0, (Lit.int .u8 x).wf = true) → ∃ k, laws_FnStagesOf.f k l0 = some true
theorem laws_FnStagesOf.walk (P : laws_FnStagesOf.Pure) (a0 : Option Addr) (len0 cap0 : Nat) (z0 : List Int) (w : World) (w0 : (a0 = none ∧ len0 = 0 ∧ cap0 = 0 ∧ z0 = []) ∨ ∃ x, a0 = some x ∧ len0 ≤ cap0 ∧ cap0 ≤ maxLen ∧ z0.length = cap0 ∧ (∀ i, i < z0.length → w.cell? (x.add i) = some (.int .u8 (z0.getD i 0))) ∧ ∀ n ∈ z0, (Lit.int .u8 n).wf = true) (y0 : len0 * 1 ≤ 140737488351232) (hT_ : Tab w) :
  Calls Tryd.prog 5 #[.slice a0 len0 cap0] w fun e w' => e = .returned (.bool true) ∧ Below w.heap.size w w' := by
 obtain ⟨l0, rfl, hr0, hm0, hw0, hc0⟩ := ReadsInt.ofRowC w0
 obtain ⟨k, h⟩ := P l0 hm0 y0 hw0
 refine (laws_FnStagesOf.calls k _ _ l0 true w (Kd.C_of_reads (d := (0 : Int)) (h1 := fun _ => rfl) hr0) hc0 h hT_).mono ?_
 rintro e w' ⟨rfl, hd⟩
 exact ⟨rfl, hd⟩

end Go.Proofs.YtbodhggmhbiebaaDoor.G
