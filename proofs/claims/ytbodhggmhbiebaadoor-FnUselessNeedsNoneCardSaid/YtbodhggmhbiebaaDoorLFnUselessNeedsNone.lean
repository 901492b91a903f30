-- SLIM
-- Written by hyb.py, a driver of this session round the print.py of the kit. Lean checks it.
import Derived.Test.YtbodhggmhbiebaaDoorWRepsOne
import Derived.Test.YtbodhggmhbiebaaDoorG0
import Derived.Test.YtbodhggmhbiebaaDoorG8
import Derived.Test.YtbodhggmhbiebaaDoorG10
import Derived.Test.YtbodhggmhbiebaaDoorHDraw
import Derived.Test.YtbodhggmhbiebaaDoorHRel
import Derived.Test.YtbodhggmhbiebaaDoorHStage
import Derived.Test.YtbodhggmhbiebaaDoorHUse
namespace Go.Proofs.YtbodhggmhbiebaaDoor.G
open Go.RowKit Go.Proofs.YtbodhggmhbiebaaDoorW.PrintWords Go.Proofs.YtbodhggmhbiebaaDoorW.PrintLast Go.Proofs.YtbodhggmhbiebaaDoorW.PrintMore
attribute [local go_sem] max2_int min2_int max_two min_two max_three min_three max_four min_four   -- for this text's walks alone
set_option linter.unusedVariables false
set_option linter.unusedSimpArgs false

/-! ### laws_FnUselessNeedsNone: function 6 -/
mutual
def laws_FnUselessNeedsNone.j0 : Nat → List (S29) → List (List Int) → Bool → Option (Bool)
 | 0, _, _, _ => none
 | k + 1, x3, x4, x26 => if x26 = true then ((spec_UselessNeeds.f k x3).bind fun t399 => ((laws_equalLists.f k x4 t399).bind fun t402 => (some t402))) else ((impl_StageOf.f x3).bind fun t403 => (laws_FnUselessNeedsNone.l0 k x3 x4 t403 0))
def laws_FnUselessNeedsNone.l0 : Nat → List (S29) → List (List Int) → List Int → Int → Option (Bool)
 | 0, _, _, _, _ => none
 | k + 1, x3, x4, x5, x6 => if x6 < (x4.length : Int) then (if 0 ≤ x6 then (if 0 < ((rd_L1 x4 x6).length : Int) then (if 0 ≤ (rd (rd_L1 x4 x6) 0) then (if (rd (rd_L1 x4 x6) 0) < (x3.length : Int) then (laws_FnUselessNeedsNone.l1 k x3 x4 x5 x6 ((rd_T29 x3 (rd (rd_L1 x4 x6) 0)).f1) false 0) else (none)) else (none)) else (none)) else (none)) else (some true)
def laws_FnUselessNeedsNone.l1 : Nat → List (S29) → List (List Int) → List Int → Int → List Int → Bool → Int → Option (Bool)
 | 0, _, _, _, _, _, _, _ => none
 | k + 1, x3, x4, x5, x6, x7, x8, x9 => if x9 < (x7.length : Int) then (if x8 = true then (laws_FnUselessNeedsNone.l1 k x3 x4 x5 x6 x7 true (wrap64 (x9 + 1))) else (if 0 ≤ x9 then (if 0 ≤ (rd x7 x9) then (if (rd x7 x9) < (x5.length : Int) then (if 0 ≤ x6 then (if x6 < (x4.length : Int) then (if 1 < ((rd_L1 x4 x6).length : Int) then (if 0 ≤ (rd (rd_L1 x4 x6) 1) then (if (rd (rd_L1 x4 x6) 1) < (x5.length : Int) then (laws_FnUselessNeedsNone.l1 k x3 x4 x5 x6 x7 (decide ((rd x5 (rd x7 x9)) > (rd x5 (rd (rd_L1 x4 x6) 1)))) (wrap64 (x9 + 1))) else (none)) else (none)) else (none)) else (none)) else (none)) else (none)) else (none)) else (none))) else (if x8 = true then (laws_FnUselessNeedsNone.l0 k x3 x4 x5 (wrap64 (x6 + 1))) else (some false))
end
def laws_FnUselessNeedsNone.f (k : Nat) (l0 : List Int) : Option (Bool) := if (l0.length : Int) > 1048576 then (some true) else ((spec_DrawUselessNeeds.f l0).bind fun t388 => ((impl_UselessNeeds.f t388).bind fun t391 => ((spec_UselessNeeds.f k t388).bind fun t394 => ((laws_equalLists.f k t391 t394).bind fun t397 => (if t397 = true then ((impl_ValidGraph.f t388).bind fun t398 => (laws_FnUselessNeedsNone.j0 k t388 t391 (!t398))) else (laws_FnUselessNeedsNone.j0 k t388 t391 true))))))
set_option maxHeartbeats 8000000 in
set_option maxRecDepth 100000 in
theorem laws_FnUselessNeedsNone.calls (k : Nat) (A0 : Option Addr) (c0 : Nat) (l0 : List Int) (r : Bool) (w : World) (hr0 : Kd.C (Kd.int .u8) w A0 l0.length l0) (hc0 : l0.length ≤ c0) (h : laws_FnUselessNeedsNone.f k l0 = some r) (hT_ : Tab w) :
  Calls Tryd.prog 6 #[.slice A0 l0.length c0] w fun e w' => e = .returned (.bool r) ∧ Below w.heap.size w w' := by
 have HTAB_ := Aside0.mk hT_
 clear hT_
 have HR0 := Aside0.mk hr0
 have HC0 := Aside0.mk hc0
 clear hr0 hc0
 have HB := Aside0.mk (Below.refl w.heap.size w)
 have H : (if (l0.length : Int) > 1048576 then (some true) else ((spec_DrawUselessNeeds.f l0).bind fun t388 => ((impl_UselessNeeds.f t388).bind fun t391 => ((spec_UselessNeeds.f k t388).bind fun t394 => ((laws_equalLists.f k t391 t394).bind fun t397 => (if t397 = true then ((impl_ValidGraph.f t388).bind fun t398 => (laws_FnUselessNeedsNone.j0 k t388 t391 (!t398))) else (laws_FnUselessNeedsNone.j0 k t388 t391 true))))))) = some r := h
 clear h
 by_cases c2 : (l0.length : Int) > 1048576
 ·rw [if_pos c2] at H
  have c2b0 : decide (1048576 < (l0.length : Int)) = true := decide_eq_true c2
  have c2b1 : decide (1048576 < l0.length) = true := decide_eq_true (by omega)
  clear c2
  obtain rfl := Option.some.inj H
  go_enter Tryd.func6, Tryd.ntmps6
  go_wp2
  repeat (go_quiet (fail); try go_wp2)
  go_ret
  exact ⟨by first | rfl | (simp [errW_none, errW_some] <;> rfl) | (simp [*, errW_none, errW_some] <;> rfl), blw_⟩
 ·rw [if_neg c2] at H
  have c2b0 : decide (1048576 < (l0.length : Int)) = false := decide_eq_false c2
  have c2b1 : decide (1048576 < l0.length) = false := decide_eq_false (by omega)
  clear c2
  replace H := Option.bind_eq_some_iff.mp H
  obtain ⟨t388, A30, H⟩ := H
  replace H : ((impl_UselessNeeds.f t388).bind fun t391 => ((spec_UselessNeeds.f k t388).bind fun t394 => ((laws_equalLists.f k t391 t394).bind fun t397 => (if t397 = true then ((impl_ValidGraph.f t388).bind fun t398 => (laws_FnUselessNeedsNone.j0 k t388 t391 (!t398))) else (laws_FnUselessNeedsNone.j0 k t388 t391 true))))) = some r := H
  have A3 := Aside0.mk A30
  clear A30
  replace H := Option.bind_eq_some_iff.mp H
  obtain ⟨t391, A40, H⟩ := H
  replace H : ((spec_UselessNeeds.f k t388).bind fun t394 => ((laws_equalLists.f k t391 t394).bind fun t397 => (if t397 = true then ((impl_ValidGraph.f t388).bind fun t398 => (laws_FnUselessNeedsNone.j0 k t388 t391 (!t398))) else (laws_FnUselessNeedsNone.j0 k t388 t391 true)))) = some r := H
  have A4 := Aside0.mk A40
  clear A40
  have HC5 := Aside0.mk H
  clear H
  go_enter Tryd.func6, Tryd.ntmps6
  go_upto_region 5 with (first | (go_at_call 18; (with_reducible refine (spec_DrawUselessNeeds.calls _ _ l0 t388 _ ?side1 ?side2 A3.out).mono ?_); (case side1 => exact cw_ HR0.out); (case side2 => exact HC0.out); rintro e w6 ⟨v389, rfl, ho0, hb⟩; have n0_ := Aside0.mk (Kd.V_lower (Kd.V_mono (ok' := fun k_ => True) ho0 (fun k_ hk_ => trivial)) (below_size blw_)); have n1_ := Aside0.mk (below_step blw_ hb); clear HB; have HO390 := n0_; have HB := n1_; clear n0_ n1_; (try clear hb); (try clear hb2); (try clear hk); (try clear hi); (try clear ho0); obtain ⟨Ao7, co7, eo7⟩ := Kd.V_slice HO390.out; subst eo7) | (go_at_call 19; (with_reducible refine (impl_UselessNeeds.calls _ _ t388 t391 _ ?side1 ?side2 A4.out ?sideT).mono ?_); (case sideT => first | exact HTAB_.out.below blw_ HTAB_.out.pos | exact HTAB_.out); (case side1 => exact cw_ (Kd.V_reads' HO390.out).2.2); (case side2 => exact (Kd.V_reads' HO390.out).2.1); rintro e w8 ⟨v392, rfl, ho0, hb⟩; have n0_ := Aside0.mk (Kd.V_elder' (by (with_reducible repeat (first | apply Kd.V_alloc | apply Kd.V_drewN | apply Kd.V_drew)); exact HO390.out) (Kd.S_base ho0) hb); have n1_ := Aside0.mk (Kd.S_lower ho0 (below_size blw_)); have n2_ := Aside0.mk (below_step blw_ hb); clear HO390; clear HB; have HO390 := n0_; have HO393 := n1_; have HB := n2_; clear n0_ n1_ n2_; (try clear hb); (try clear hb2); (try clear hk); (try clear hi); (try clear ho0)))
  repeat (go_quiet (first | (go_at_call 18; (with_reducible refine (spec_DrawUselessNeeds.calls _ _ l0 t388 _ ?side1 ?side2 A3.out).mono ?_); (case side1 => exact cw_ HR0.out); (case side2 => exact HC0.out); rintro e w6 ⟨v389, rfl, ho0, hb⟩; have n0_ := Aside0.mk (Kd.V_lower (Kd.V_mono (ok' := fun k_ => True) ho0 (fun k_ hk_ => trivial)) (below_size blw_)); have n1_ := Aside0.mk (below_step blw_ hb); clear HB; have HO390 := n0_; have HB := n1_; clear n0_ n1_; (try clear hb); (try clear hb2); (try clear hk); (try clear hi); (try clear ho0); obtain ⟨Ao7, co7, eo7⟩ := Kd.V_slice HO390.out; subst eo7) | (go_at_call 19; (with_reducible refine (impl_UselessNeeds.calls _ _ t388 t391 _ ?side1 ?side2 A4.out ?sideT).mono ?_); (case sideT => first | exact HTAB_.out.below blw_ HTAB_.out.pos | exact HTAB_.out); (case side1 => exact cw_ (Kd.V_reads' HO390.out).2.2); (case side2 => exact (Kd.V_reads' HO390.out).2.1); rintro e w8 ⟨v392, rfl, ho0, hb⟩; have n0_ := Aside0.mk (Kd.V_elder' (by (with_reducible repeat (first | apply Kd.V_alloc | apply Kd.V_drewN | apply Kd.V_drew)); exact HO390.out) (Kd.S_base ho0) hb); have n1_ := Aside0.mk (Kd.S_lower ho0 (below_size blw_)); have n2_ := Aside0.mk (below_step blw_ hb); clear HO390; clear HB; have HO390 := n0_; have HO393 := n1_; have HB := n2_; clear n0_ n1_ n2_; (try clear hb); (try clear hb2); (try clear hk); (try clear hi); (try clear ho0))); go_upto_region 5 with (first | (go_at_call 18; (with_reducible refine (spec_DrawUselessNeeds.calls _ _ l0 t388 _ ?side1 ?side2 A3.out).mono ?_); (case side1 => exact cw_ HR0.out); (case side2 => exact HC0.out); rintro e w6 ⟨v389, rfl, ho0, hb⟩; have n0_ := Aside0.mk (Kd.V_lower (Kd.V_mono (ok' := fun k_ => True) ho0 (fun k_ hk_ => trivial)) (below_size blw_)); have n1_ := Aside0.mk (below_step blw_ hb); clear HB; have HO390 := n0_; have HB := n1_; clear n0_ n1_; (try clear hb); (try clear hb2); (try clear hk); (try clear hi); (try clear ho0); obtain ⟨Ao7, co7, eo7⟩ := Kd.V_slice HO390.out; subst eo7) | (go_at_call 19; (with_reducible refine (impl_UselessNeeds.calls _ _ t388 t391 _ ?side1 ?side2 A4.out ?sideT).mono ?_); (case sideT => first | exact HTAB_.out.below blw_ HTAB_.out.pos | exact HTAB_.out); (case side1 => exact cw_ (Kd.V_reads' HO390.out).2.2); (case side2 => exact (Kd.V_reads' HO390.out).2.1); rintro e w8 ⟨v392, rfl, ho0, hb⟩; have n0_ := Aside0.mk (Kd.V_elder' (by (with_reducible repeat (first | apply Kd.V_alloc | apply Kd.V_drewN | apply Kd.V_drew)); exact HO390.out) (Kd.S_base ho0) hb); have n1_ := Aside0.mk (Kd.S_lower ho0 (below_size blw_)); have n2_ := Aside0.mk (below_step blw_ hb); clear HO390; clear HB; have HO390 := n0_; have HO393 := n1_; have HB := n2_; clear n0_ n1_ n2_; (try clear hb); (try clear hb2); (try clear hk); (try clear hi); (try clear ho0))))
  (try simp only [Act.put, List.setIfInBounds_toArray, List.set_cons_zero, List.set_cons_succ])
  go_cut [26] (fun v26 wc => ∃ (kq : Nat) (x26_4 : Bool), v26 = .bool x26_4 ∧ Aside0 (laws_FnUselessNeedsNone.j0 kq t388 t391 x26_4 = some r) ∧ Aside0 (kq ≤ k) ∧ Aside0 (Kd.V k29 29 wc w.heap.size (fun k_ => some k_ ≠ (v392 : Value).ownBlock) (.slice Ao7 t388.length co7) t388) ∧ Aside0 (Kd.S (Kd.slice 3 (Kd.int .i64)) 25 wc w.heap.size (fun _ => True) v392 t391) ∧ Aside0 (Below w.heap.size w wc))
  case first =>
   have H := HC5.out
   clear HC5
   replace H := Option.bind_eq_some_iff.mp H
   obtain ⟨t394, A90, H⟩ := H
   replace H : ((laws_equalLists.f k t391 t394).bind fun t397 => (if t397 = true then ((impl_ValidGraph.f t388).bind fun t398 => (laws_FnUselessNeedsNone.j0 k t388 t391 (!t398))) else (laws_FnUselessNeedsNone.j0 k t388 t391 true))) = some r := H
   have A9 := Aside0.mk A90
   clear A90
   replace H := Option.bind_eq_some_iff.mp H
   obtain ⟨t397, A100, H⟩ := H
   replace H : (if t397 = true then ((impl_ValidGraph.f t388).bind fun t398 => (laws_FnUselessNeedsNone.j0 k t388 t391 (!t398))) else (laws_FnUselessNeedsNone.j0 k t388 t391 true)) = some r := H
   have A10 := Aside0.mk A100
   clear A100
   by_cases c11 : t397 = true
   ·subst c11
    have H1 : ((impl_ValidGraph.f t388).bind fun t398 => (laws_FnUselessNeedsNone.j0 k t388 t391 (!t398))) = some r := by rw [if_pos rfl] at H; exact H
    clear H
    have H := H1
    clear H1
    replace H := Option.bind_eq_some_iff.mp H
    obtain ⟨t398, A120, H⟩ := H
    replace H : (laws_FnUselessNeedsNone.j0 k t388 t391 (!t398)) = some r := H
    have A12 := Aside0.mk A120
    clear A120
    have H' := Aside0.mk H
    clear H
    go_wp2_with (first | (go_at_call 20; (with_reducible refine (spec_UselessNeeds.calls k _ _ t388 t394 _ ?side1 ?side2 A9.out).mono ?_); (case side1 => exact cw_ (Kd.V_reads' HO390.out).2.2); (case side2 => exact (Kd.V_reads' HO390.out).2.1); rintro e w13 ⟨v395, rfl, ho0, hb⟩; have n0_ := Aside0.mk (Kd.V_elder' (by (with_reducible repeat (first | apply Kd.V_alloc | apply Kd.V_drewN | apply Kd.V_drew)); exact HO390.out) (Kd.S_base ho0) hb); have n1_ := Aside0.mk (Kd.S_elder' (by (with_reducible repeat (first | apply Kd.S_alloc | apply Kd.S_drewN | apply Kd.S_drew)); exact HO393.out) (Kd.S_base ho0) hb); have n2_ := Aside0.mk (Kd.S_lower (Kd.S_new' ho0 (Kd.S_lt (by (with_reducible repeat (first | apply Kd.S_alloc | apply Kd.S_drewN | apply Kd.S_drew)); exact HO393.out))) (below_size blw_)); have n3_ := Aside0.mk (below_step blw_ hb); clear HO390; clear HO393; clear HB; have HO390 := n0_; have HO393 := n1_; have HO396 := n2_; have HB := n3_; clear n0_ n1_ n2_ n3_; (try clear hb); (try clear hb2); (try clear hk); (try clear hi); (try clear ho0); obtain ⟨Ao14, co14, eo14⟩ := Kd.S_slice HO393.out; subst eo14; obtain ⟨Ao15, co15, eo15⟩ := Kd.S_slice HO396.out; subst eo15) | (go_at_call 16; (with_reducible refine (laws_equalLists.calls k _ _ t391 _ _ t394 true _ ?side1 ?side2 ?side3 ?side4 A10.out).mono ?_); (case side1 => exact cw_ (Kd.S_reads' HO393.out).2.2); (case side2 => exact (Kd.S_reads' HO393.out).2.1); (case side3 => exact cw_ (Kd.S_reads' HO396.out).2.2); (case side4 => exact (Kd.S_reads' HO396.out).2.1); rintro e w' ⟨rfl, ⟨nd, rfl⟩⟩; (try first | exact ⟨rfl, _, World.drewN_drewN _ _ _⟩ | exact ⟨rfl, _, Eq.trans (World.drewN_drewN _ _ _) (congrArg (World.drewN _) (Nat.add_assoc _ _ _))⟩)) | (go_at_call 21; (with_reducible refine (impl_ValidGraph.calls _ _ t388 t398 _ ?side1 ?side2 A12.out ?sideT).mono ?_); (case sideT => first | exact HTAB_.out.below blw_ HTAB_.out.pos | exact HTAB_.out); (case side1 => exact cw_ (Kd.V_reads' HO390.out).2.2); (case side2 => exact (Kd.V_reads' HO390.out).2.1); rintro e w16 ⟨rfl, hb⟩; have n0_ := Aside0.mk (Kd.V_below (by (with_reducible repeat (first | apply Kd.V_alloc | apply Kd.V_drewN | apply Kd.V_drew)); exact HO390.out) hb); have n1_ := Aside0.mk (Kd.S_below (by (with_reducible repeat (first | apply Kd.S_alloc | apply Kd.S_drewN | apply Kd.S_drew)); exact HO393.out) hb); have n2_ := Aside0.mk (Kd.S_below (by (with_reducible repeat (first | apply Kd.S_alloc | apply Kd.S_drewN | apply Kd.S_drew)); exact HO396.out) hb); have n3_ := Aside0.mk (below_step blw_ hb); clear HO390; clear HO393; clear HO396; clear HB; have HO390 := n0_; have HO393 := n1_; have HO396 := n2_; have HB := n3_; clear n0_ n1_ n2_ n3_; (try clear hb); (try clear hb2); (try clear hk); (try clear hi)))
    repeat (go_quiet (first | (go_at_call 20; (with_reducible refine (spec_UselessNeeds.calls k _ _ t388 t394 _ ?side1 ?side2 A9.out).mono ?_); (case side1 => exact cw_ (Kd.V_reads' HO390.out).2.2); (case side2 => exact (Kd.V_reads' HO390.out).2.1); rintro e w13 ⟨v395, rfl, ho0, hb⟩; have n0_ := Aside0.mk (Kd.V_elder' (by (with_reducible repeat (first | apply Kd.V_alloc | apply Kd.V_drewN | apply Kd.V_drew)); exact HO390.out) (Kd.S_base ho0) hb); have n1_ := Aside0.mk (Kd.S_elder' (by (with_reducible repeat (first | apply Kd.S_alloc | apply Kd.S_drewN | apply Kd.S_drew)); exact HO393.out) (Kd.S_base ho0) hb); have n2_ := Aside0.mk (Kd.S_lower (Kd.S_new' ho0 (Kd.S_lt (by (with_reducible repeat (first | apply Kd.S_alloc | apply Kd.S_drewN | apply Kd.S_drew)); exact HO393.out))) (below_size blw_)); have n3_ := Aside0.mk (below_step blw_ hb); clear HO390; clear HO393; clear HB; have HO390 := n0_; have HO393 := n1_; have HO396 := n2_; have HB := n3_; clear n0_ n1_ n2_ n3_; (try clear hb); (try clear hb2); (try clear hk); (try clear hi); (try clear ho0); obtain ⟨Ao14, co14, eo14⟩ := Kd.S_slice HO393.out; subst eo14; obtain ⟨Ao15, co15, eo15⟩ := Kd.S_slice HO396.out; subst eo15) | (go_at_call 16; (with_reducible refine (laws_equalLists.calls k _ _ t391 _ _ t394 true _ ?side1 ?side2 ?side3 ?side4 A10.out).mono ?_); (case side1 => exact cw_ (Kd.S_reads' HO393.out).2.2); (case side2 => exact (Kd.S_reads' HO393.out).2.1); (case side3 => exact cw_ (Kd.S_reads' HO396.out).2.2); (case side4 => exact (Kd.S_reads' HO396.out).2.1); rintro e w' ⟨rfl, ⟨nd, rfl⟩⟩; (try first | exact ⟨rfl, _, World.drewN_drewN _ _ _⟩ | exact ⟨rfl, _, Eq.trans (World.drewN_drewN _ _ _) (congrArg (World.drewN _) (Nat.add_assoc _ _ _))⟩)) | (go_at_call 21; (with_reducible refine (impl_ValidGraph.calls _ _ t388 t398 _ ?side1 ?side2 A12.out ?sideT).mono ?_); (case sideT => first | exact HTAB_.out.below blw_ HTAB_.out.pos | exact HTAB_.out); (case side1 => exact cw_ (Kd.V_reads' HO390.out).2.2); (case side2 => exact (Kd.V_reads' HO390.out).2.1); rintro e w16 ⟨rfl, hb⟩; have n0_ := Aside0.mk (Kd.V_below (by (with_reducible repeat (first | apply Kd.V_alloc | apply Kd.V_drewN | apply Kd.V_drew)); exact HO390.out) hb); have n1_ := Aside0.mk (Kd.S_below (by (with_reducible repeat (first | apply Kd.S_alloc | apply Kd.S_drewN | apply Kd.S_drew)); exact HO393.out) hb); have n2_ := Aside0.mk (Kd.S_below (by (with_reducible repeat (first | apply Kd.S_alloc | apply Kd.S_drewN | apply Kd.S_drew)); exact HO396.out) hb); have n3_ := Aside0.mk (below_step blw_ hb); clear HO390; clear HO393; clear HO396; clear HB; have HO390 := n0_; have HO393 := n1_; have HO396 := n2_; have HB := n3_; clear n0_ n1_ n2_ n3_; (try clear hb); (try clear hb2); (try clear hk); (try clear hi))); try go_wp2_with (first | (go_at_call 20; (with_reducible refine (spec_UselessNeeds.calls k _ _ t388 t394 _ ?side1 ?side2 A9.out).mono ?_); (case side1 => exact cw_ (Kd.V_reads' HO390.out).2.2); (case side2 => exact (Kd.V_reads' HO390.out).2.1); rintro e w13 ⟨v395, rfl, ho0, hb⟩; have n0_ := Aside0.mk (Kd.V_elder' (by (with_reducible repeat (first | apply Kd.V_alloc | apply Kd.V_drewN | apply Kd.V_drew)); exact HO390.out) (Kd.S_base ho0) hb); have n1_ := Aside0.mk (Kd.S_elder' (by (with_reducible repeat (first | apply Kd.S_alloc | apply Kd.S_drewN | apply Kd.S_drew)); exact HO393.out) (Kd.S_base ho0) hb); have n2_ := Aside0.mk (Kd.S_lower (Kd.S_new' ho0 (Kd.S_lt (by (with_reducible repeat (first | apply Kd.S_alloc | apply Kd.S_drewN | apply Kd.S_drew)); exact HO393.out))) (below_size blw_)); have n3_ := Aside0.mk (below_step blw_ hb); clear HO390; clear HO393; clear HB; have HO390 := n0_; have HO393 := n1_; have HO396 := n2_; have HB := n3_; clear n0_ n1_ n2_ n3_; (try clear hb); (try clear hb2); (try clear hk); (try clear hi); (try clear ho0); obtain ⟨Ao14, co14, eo14⟩ := Kd.S_slice HO393.out; subst eo14; obtain ⟨Ao15, co15, eo15⟩ := Kd.S_slice HO396.out; subst eo15) | (go_at_call 16; (with_reducible refine (laws_equalLists.calls k _ _ t391 _ _ t394 true _ ?side1 ?side2 ?side3 ?side4 A10.out).mono ?_); (case side1 => exact cw_ (Kd.S_reads' HO393.out).2.2); (case side2 => exact (Kd.S_reads' HO393.out).2.1); (case side3 => exact cw_ (Kd.S_reads' HO396.out).2.2); (case side4 => exact (Kd.S_reads' HO396.out).2.1); rintro e w' ⟨rfl, ⟨nd, rfl⟩⟩; (try first | exact ⟨rfl, _, World.drewN_drewN _ _ _⟩ | exact ⟨rfl, _, Eq.trans (World.drewN_drewN _ _ _) (congrArg (World.drewN _) (Nat.add_assoc _ _ _))⟩)) | (go_at_call 21; (with_reducible refine (impl_ValidGraph.calls _ _ t388 t398 _ ?side1 ?side2 A12.out ?sideT).mono ?_); (case sideT => first | exact HTAB_.out.below blw_ HTAB_.out.pos | exact HTAB_.out); (case side1 => exact cw_ (Kd.V_reads' HO390.out).2.2); (case side2 => exact (Kd.V_reads' HO390.out).2.1); rintro e w16 ⟨rfl, hb⟩; have n0_ := Aside0.mk (Kd.V_below (by (with_reducible repeat (first | apply Kd.V_alloc | apply Kd.V_drewN | apply Kd.V_drew)); exact HO390.out) hb); have n1_ := Aside0.mk (Kd.S_below (by (with_reducible repeat (first | apply Kd.S_alloc | apply Kd.S_drewN | apply Kd.S_drew)); exact HO393.out) hb); have n2_ := Aside0.mk (Kd.S_below (by (with_reducible repeat (first | apply Kd.S_alloc | apply Kd.S_drewN | apply Kd.S_drew)); exact HO396.out) hb); have n3_ := Aside0.mk (below_step blw_ hb); clear HO390; clear HO393; clear HO396; clear HB; have HO390 := n0_; have HO393 := n1_; have HO396 := n2_; have HB := n3_; clear n0_ n1_ n2_ n3_; (try clear hb); (try clear hb2); (try clear hk); (try clear hi))))
    go_meet
    case rel => exact ⟨_, (!t398), (by first | rfl | (simp; done) | (simp [*]; done)), H', ⟨by first | omega | exact Nat.le_refl _⟩, ⟨by (with_reducible repeat (first | apply Kd.V_alloc | apply Kd.V_drewN | apply Kd.V_drew)); exact Kd.V_mono HO390.out (fun _ hk => hk.1.2)⟩, ⟨by (with_reducible repeat (first | apply Kd.S_alloc | apply Kd.S_drewN | apply Kd.S_drew)); exact Kd.S_mono HO393.out (fun _ hk => trivial)⟩, ⟨blw_⟩⟩
   ·replace c11 := Bool.eq_false_iff.mpr c11
    subst c11
    have H1 : (laws_FnUselessNeedsNone.j0 k t388 t391 true) = some r := by rw [if_neg (show ¬ (false = true) by decide)] at H; exact H
    clear H
    have H := H1
    clear H1
    have H' := Aside0.mk H
    clear H
    go_wp2_with (first | (go_at_call 20; (with_reducible refine (spec_UselessNeeds.calls k _ _ t388 t394 _ ?side1 ?side2 A9.out).mono ?_); (case side1 => exact cw_ (Kd.V_reads' HO390.out).2.2); (case side2 => exact (Kd.V_reads' HO390.out).2.1); rintro e w17 ⟨v395, rfl, ho0, hb⟩; have n0_ := Aside0.mk (Kd.V_elder' (by (with_reducible repeat (first | apply Kd.V_alloc | apply Kd.V_drewN | apply Kd.V_drew)); exact HO390.out) (Kd.S_base ho0) hb); have n1_ := Aside0.mk (Kd.S_elder' (by (with_reducible repeat (first | apply Kd.S_alloc | apply Kd.S_drewN | apply Kd.S_drew)); exact HO393.out) (Kd.S_base ho0) hb); have n2_ := Aside0.mk (Kd.S_lower (Kd.S_new' ho0 (Kd.S_lt (by (with_reducible repeat (first | apply Kd.S_alloc | apply Kd.S_drewN | apply Kd.S_drew)); exact HO393.out))) (below_size blw_)); have n3_ := Aside0.mk (below_step blw_ hb); clear HO390; clear HO393; clear HB; have HO390 := n0_; have HO393 := n1_; have HO396 := n2_; have HB := n3_; clear n0_ n1_ n2_ n3_; (try clear hb); (try clear hb2); (try clear hk); (try clear hi); (try clear ho0); obtain ⟨Ao18, co18, eo18⟩ := Kd.S_slice HO393.out; subst eo18; obtain ⟨Ao19, co19, eo19⟩ := Kd.S_slice HO396.out; subst eo19) | (go_at_call 16; (with_reducible refine (laws_equalLists.calls k _ _ t391 _ _ t394 false _ ?side1 ?side2 ?side3 ?side4 A10.out).mono ?_); (case side1 => exact cw_ (Kd.S_reads' HO393.out).2.2); (case side2 => exact (Kd.S_reads' HO393.out).2.1); (case side3 => exact cw_ (Kd.S_reads' HO396.out).2.2); (case side4 => exact (Kd.S_reads' HO396.out).2.1); rintro e w' ⟨rfl, ⟨nd, rfl⟩⟩; (try first | exact ⟨rfl, _, World.drewN_drewN _ _ _⟩ | exact ⟨rfl, _, Eq.trans (World.drewN_drewN _ _ _) (congrArg (World.drewN _) (Nat.add_assoc _ _ _))⟩)))
    repeat (go_quiet (first | (go_at_call 20; (with_reducible refine (spec_UselessNeeds.calls k _ _ t388 t394 _ ?side1 ?side2 A9.out).mono ?_); (case side1 => exact cw_ (Kd.V_reads' HO390.out).2.2); (case side2 => exact (Kd.V_reads' HO390.out).2.1); rintro e w17 ⟨v395, rfl, ho0, hb⟩; have n0_ := Aside0.mk (Kd.V_elder' (by (with_reducible repeat (first | apply Kd.V_alloc | apply Kd.V_drewN | apply Kd.V_drew)); exact HO390.out) (Kd.S_base ho0) hb); have n1_ := Aside0.mk (Kd.S_elder' (by (with_reducible repeat (first | apply Kd.S_alloc | apply Kd.S_drewN | apply Kd.S_drew)); exact HO393.out) (Kd.S_base ho0) hb); have n2_ := Aside0.mk (Kd.S_lower (Kd.S_new' ho0 (Kd.S_lt (by (with_reducible repeat (first | apply Kd.S_alloc | apply Kd.S_drewN | apply Kd.S_drew)); exact HO393.out))) (below_size blw_)); have n3_ := Aside0.mk (below_step blw_ hb); clear HO390; clear HO393; clear HB; have HO390 := n0_; have HO393 := n1_; have HO396 := n2_; have HB := n3_; clear n0_ n1_ n2_ n3_; (try clear hb); (try clear hb2); (try clear hk); (try clear hi); (try clear ho0); obtain ⟨Ao18, co18, eo18⟩ := Kd.S_slice HO393.out; subst eo18; obtain ⟨Ao19, co19, eo19⟩ := Kd.S_slice HO396.out; subst eo19) | (go_at_call 16; (with_reducible refine (laws_equalLists.calls k _ _ t391 _ _ t394 false _ ?side1 ?side2 ?side3 ?side4 A10.out).mono ?_); (case side1 => exact cw_ (Kd.S_reads' HO393.out).2.2); (case side2 => exact (Kd.S_reads' HO393.out).2.1); (case side3 => exact cw_ (Kd.S_reads' HO396.out).2.2); (case side4 => exact (Kd.S_reads' HO396.out).2.1); rintro e w' ⟨rfl, ⟨nd, rfl⟩⟩; (try first | exact ⟨rfl, _, World.drewN_drewN _ _ _⟩ | exact ⟨rfl, _, Eq.trans (World.drewN_drewN _ _ _) (congrArg (World.drewN _) (Nat.add_assoc _ _ _))⟩))); try go_wp2_with (first | (go_at_call 20; (with_reducible refine (spec_UselessNeeds.calls k _ _ t388 t394 _ ?side1 ?side2 A9.out).mono ?_); (case side1 => exact cw_ (Kd.V_reads' HO390.out).2.2); (case side2 => exact (Kd.V_reads' HO390.out).2.1); rintro e w17 ⟨v395, rfl, ho0, hb⟩; have n0_ := Aside0.mk (Kd.V_elder' (by (with_reducible repeat (first | apply Kd.V_alloc | apply Kd.V_drewN | apply Kd.V_drew)); exact HO390.out) (Kd.S_base ho0) hb); have n1_ := Aside0.mk (Kd.S_elder' (by (with_reducible repeat (first | apply Kd.S_alloc | apply Kd.S_drewN | apply Kd.S_drew)); exact HO393.out) (Kd.S_base ho0) hb); have n2_ := Aside0.mk (Kd.S_lower (Kd.S_new' ho0 (Kd.S_lt (by (with_reducible repeat (first | apply Kd.S_alloc | apply Kd.S_drewN | apply Kd.S_drew)); exact HO393.out))) (below_size blw_)); have n3_ := Aside0.mk (below_step blw_ hb); clear HO390; clear HO393; clear HB; have HO390 := n0_; have HO393 := n1_; have HO396 := n2_; have HB := n3_; clear n0_ n1_ n2_ n3_; (try clear hb); (try clear hb2); (try clear hk); (try clear hi); (try clear ho0); obtain ⟨Ao18, co18, eo18⟩ := Kd.S_slice HO393.out; subst eo18; obtain ⟨Ao19, co19, eo19⟩ := Kd.S_slice HO396.out; subst eo19) | (go_at_call 16; (with_reducible refine (laws_equalLists.calls k _ _ t391 _ _ t394 false _ ?side1 ?side2 ?side3 ?side4 A10.out).mono ?_); (case side1 => exact cw_ (Kd.S_reads' HO393.out).2.2); (case side2 => exact (Kd.S_reads' HO393.out).2.1); (case side3 => exact cw_ (Kd.S_reads' HO396.out).2.2); (case side4 => exact (Kd.S_reads' HO396.out).2.1); rintro e w' ⟨rfl, ⟨nd, rfl⟩⟩; (try first | exact ⟨rfl, _, World.drewN_drewN _ _ _⟩ | exact ⟨rfl, _, Eq.trans (World.drewN_drewN _ _ _) (congrArg (World.drewN _) (Nat.add_assoc _ _ _))⟩))))
    go_meet
    case rel => exact ⟨_, (true), (by first | rfl | (simp; done) | (simp [*]; done)), H', ⟨by first | omega | exact Nat.le_refl _⟩, ⟨by (with_reducible repeat (first | apply Kd.V_alloc | apply Kd.V_drewN | apply Kd.V_drew)); exact Kd.V_mono HO390.out (fun _ hk => hk.1.2)⟩, ⟨by (with_reducible repeat (first | apply Kd.S_alloc | apply Kd.S_drewN | apply Kd.S_drew)); exact Kd.S_mono HO393.out (fun _ hk => trivial)⟩, ⟨blw_⟩⟩
  case rest =>
   clear HC5
   try clear c1
   try clear c2
   try clear c2b0
   try clear c2b1
   try clear p2
   try clear c6
   try clear c11
   obtain ⟨kq, x26_4, rfl, HA, HJ4, HO_3, HO_4, HB⟩ := hcut
   cases kq with
   | zero => exact absurd HA.out (by simp [laws_FnUselessNeedsNone.j0])
   | succ kj4 =>
    have H := HA.out
    clear HA
    simp only [laws_FnUselessNeedsNone.j0] at H
    by_cases c20 : x26_4 = true
    ·subst c20
     have H1 : ((spec_UselessNeeds.f kj4 t388).bind fun t399 => ((laws_equalLists.f kj4 t391 t399).bind fun t402 => (some t402))) = some r := by rw [if_pos rfl] at H; exact H
     clear H
     have H := H1
     clear H1
     replace H := Option.bind_eq_some_iff.mp H
     obtain ⟨t399, A210, H⟩ := H
     replace H : ((laws_equalLists.f kj4 t391 t399).bind fun t402 => (some t402)) = some r := H
     have A21 := Aside0.mk A210
     clear A210
     replace H := Option.bind_eq_some_iff.mp H
     obtain ⟨t402, A220, H⟩ := H
     replace H : (some t402) = some r := H
     have A22 := Aside0.mk A220
     clear A220
     obtain rfl := Option.some.inj H
     go_wp2_with (first | (go_at_call 20; (with_reducible refine (spec_UselessNeeds.calls kj4 _ _ t388 t399 _ ?side1 ?side2 A21.out).mono ?_); (case side1 => exact cw_ (Kd.V_reads' HO_3.out).2.2); (case side2 => exact (Kd.V_reads' HO_3.out).2.1); rintro e w23 ⟨v400, rfl, ho0, hb⟩; have n0_ := Aside0.mk (Kd.V_elder' (by (with_reducible repeat (first | apply Kd.V_alloc | apply Kd.V_drewN | apply Kd.V_drew)); exact HO_3.out) (Kd.S_base ho0) hb); have n1_ := Aside0.mk (Kd.S_elder' (by (with_reducible repeat (first | apply Kd.S_alloc | apply Kd.S_drewN | apply Kd.S_drew)); exact HO_4.out) (Kd.S_base ho0) hb); have n2_ := Aside0.mk (Kd.S_lower (Kd.S_new' ho0 (Kd.S_lt (by (with_reducible repeat (first | apply Kd.S_alloc | apply Kd.S_drewN | apply Kd.S_drew)); exact HO_4.out))) (below_size blw_)); have n3_ := Aside0.mk (below_step blw_ hb); clear HO_3; clear HO_4; clear HB; have HO_3 := n0_; have HO_4 := n1_; have HO401 := n2_; have HB := n3_; clear n0_ n1_ n2_ n3_; (try clear hb); (try clear hb2); (try clear hk); (try clear hi); (try clear ho0); obtain ⟨Ao24, co24, eo24⟩ := Kd.S_slice HO_4.out; subst eo24; obtain ⟨Ao25, co25, eo25⟩ := Kd.S_slice HO401.out; subst eo25) | (go_at_call 16; (with_reducible refine (laws_equalLists.calls kj4 _ _ t391 _ _ t399 t402 _ ?side1 ?side2 ?side3 ?side4 A22.out).mono ?_); (case side1 => exact cw_ (Kd.S_reads' HO_4.out).2.2); (case side2 => exact (Kd.S_reads' HO_4.out).2.1); (case side3 => exact cw_ (Kd.S_reads' HO401.out).2.2); (case side4 => exact (Kd.S_reads' HO401.out).2.1); rintro e w' ⟨rfl, ⟨nd, rfl⟩⟩; (try first | exact ⟨rfl, _, World.drewN_drewN _ _ _⟩ | exact ⟨rfl, _, Eq.trans (World.drewN_drewN _ _ _) (congrArg (World.drewN _) (Nat.add_assoc _ _ _))⟩)))
     repeat (go_quiet (first | (go_at_call 20; (with_reducible refine (spec_UselessNeeds.calls kj4 _ _ t388 t399 _ ?side1 ?side2 A21.out).mono ?_); (case side1 => exact cw_ (Kd.V_reads' HO_3.out).2.2); (case side2 => exact (Kd.V_reads' HO_3.out).2.1); rintro e w23 ⟨v400, rfl, ho0, hb⟩; have n0_ := Aside0.mk (Kd.V_elder' (by (with_reducible repeat (first | apply Kd.V_alloc | apply Kd.V_drewN | apply Kd.V_drew)); exact HO_3.out) (Kd.S_base ho0) hb); have n1_ := Aside0.mk (Kd.S_elder' (by (with_reducible repeat (first | apply Kd.S_alloc | apply Kd.S_drewN | apply Kd.S_drew)); exact HO_4.out) (Kd.S_base ho0) hb); have n2_ := Aside0.mk (Kd.S_lower (Kd.S_new' ho0 (Kd.S_lt (by (with_reducible repeat (first | apply Kd.S_alloc | apply Kd.S_drewN | apply Kd.S_drew)); exact HO_4.out))) (below_size blw_)); have n3_ := Aside0.mk (below_step blw_ hb); clear HO_3; clear HO_4; clear HB; have HO_3 := n0_; have HO_4 := n1_; have HO401 := n2_; have HB := n3_; clear n0_ n1_ n2_ n3_; (try clear hb); (try clear hb2); (try clear hk); (try clear hi); (try clear ho0); obtain ⟨Ao24, co24, eo24⟩ := Kd.S_slice HO_4.out; subst eo24; obtain ⟨Ao25, co25, eo25⟩ := Kd.S_slice HO401.out; subst eo25) | (go_at_call 16; (with_reducible refine (laws_equalLists.calls kj4 _ _ t391 _ _ t399 t402 _ ?side1 ?side2 ?side3 ?side4 A22.out).mono ?_); (case side1 => exact cw_ (Kd.S_reads' HO_4.out).2.2); (case side2 => exact (Kd.S_reads' HO_4.out).2.1); (case side3 => exact cw_ (Kd.S_reads' HO401.out).2.2); (case side4 => exact (Kd.S_reads' HO401.out).2.1); rintro e w' ⟨rfl, ⟨nd, rfl⟩⟩; (try first | exact ⟨rfl, _, World.drewN_drewN _ _ _⟩ | exact ⟨rfl, _, Eq.trans (World.drewN_drewN _ _ _) (congrArg (World.drewN _) (Nat.add_assoc _ _ _))⟩))); try go_wp2_with (first | (go_at_call 20; (with_reducible refine (spec_UselessNeeds.calls kj4 _ _ t388 t399 _ ?side1 ?side2 A21.out).mono ?_); (case side1 => exact cw_ (Kd.V_reads' HO_3.out).2.2); (case side2 => exact (Kd.V_reads' HO_3.out).2.1); rintro e w23 ⟨v400, rfl, ho0, hb⟩; have n0_ := Aside0.mk (Kd.V_elder' (by (with_reducible repeat (first | apply Kd.V_alloc | apply Kd.V_drewN | apply Kd.V_drew)); exact HO_3.out) (Kd.S_base ho0) hb); have n1_ := Aside0.mk (Kd.S_elder' (by (with_reducible repeat (first | apply Kd.S_alloc | apply Kd.S_drewN | apply Kd.S_drew)); exact HO_4.out) (Kd.S_base ho0) hb); have n2_ := Aside0.mk (Kd.S_lower (Kd.S_new' ho0 (Kd.S_lt (by (with_reducible repeat (first | apply Kd.S_alloc | apply Kd.S_drewN | apply Kd.S_drew)); exact HO_4.out))) (below_size blw_)); have n3_ := Aside0.mk (below_step blw_ hb); clear HO_3; clear HO_4; clear HB; have HO_3 := n0_; have HO_4 := n1_; have HO401 := n2_; have HB := n3_; clear n0_ n1_ n2_ n3_; (try clear hb); (try clear hb2); (try clear hk); (try clear hi); (try clear ho0); obtain ⟨Ao24, co24, eo24⟩ := Kd.S_slice HO_4.out; subst eo24; obtain ⟨Ao25, co25, eo25⟩ := Kd.S_slice HO401.out; subst eo25) | (go_at_call 16; (with_reducible refine (laws_equalLists.calls kj4 _ _ t391 _ _ t399 t402 _ ?side1 ?side2 ?side3 ?side4 A22.out).mono ?_); (case side1 => exact cw_ (Kd.S_reads' HO_4.out).2.2); (case side2 => exact (Kd.S_reads' HO_4.out).2.1); (case side3 => exact cw_ (Kd.S_reads' HO401.out).2.2); (case side4 => exact (Kd.S_reads' HO401.out).2.1); rintro e w' ⟨rfl, ⟨nd, rfl⟩⟩; (try first | exact ⟨rfl, _, World.drewN_drewN _ _ _⟩ | exact ⟨rfl, _, Eq.trans (World.drewN_drewN _ _ _) (congrArg (World.drewN _) (Nat.add_assoc _ _ _))⟩))))
     go_ret
     exact ⟨by first | rfl | (simp [errW_none, errW_some] <;> rfl) | (simp [*, errW_none, errW_some] <;> rfl), blw_⟩
    ·replace c20 := Bool.eq_false_iff.mpr c20
     subst c20
     have H1 : ((impl_StageOf.f t388).bind fun t403 => (laws_FnUselessNeedsNone.l0 kj4 t388 t391 t403 0)) = some r := by rw [if_neg (show ¬ (false = true) by decide)] at H; exact H
     clear H
     have H := H1
     clear H1
     replace H := Option.bind_eq_some_iff.mp H
     obtain ⟨t403, A260, H⟩ := H
     replace H : (laws_FnUselessNeedsNone.l0 kj4 t388 t391 t403 0) = some r := H
     have A26 := Aside0.mk A260
     clear A260
     have H' := Aside0.mk H
     clear H
     go_wp2_with (first | (go_at_call 10; (with_reducible refine (impl_StageOf.calls _ _ t388 t403 _ ?side1 ?side2 A26.out ?sideT).mono ?_); (case sideT => first | exact HTAB_.out.below blw_ HTAB_.out.pos | exact HTAB_.out); (case side1 => exact cw_ (Kd.V_reads' HO_3.out).2.2); (case side2 => exact (Kd.V_reads' HO_3.out).2.1); rintro e w27 ⟨v404, rfl, ho0, hb⟩; have n0_ := Aside0.mk (Kd.V_elder' (by (with_reducible repeat (first | apply Kd.V_alloc | apply Kd.V_drewN | apply Kd.V_drew)); exact HO_3.out) (Kd.R_base ho0) hb); have n1_ := Aside0.mk (Kd.S_elder' (by (with_reducible repeat (first | apply Kd.S_alloc | apply Kd.S_drewN | apply Kd.S_drew)); exact HO_4.out) (Kd.R_base ho0) hb); have n2_ := Aside0.mk (Kd.R_lower ho0 (below_size blw_)); have n3_ := Aside0.mk (below_step blw_ hb); clear HO_3; clear HO_4; clear HB; have HO_3 := n0_; have HO_4 := n1_; have HO405 := n2_; have HB := n3_; clear n0_ n1_ n2_ n3_; (try clear hb); (try clear hb2); (try clear hk); (try clear hi); (try clear ho0)))
     repeat (go_quiet (first | (go_at_call 10; (with_reducible refine (impl_StageOf.calls _ _ t388 t403 _ ?side1 ?side2 A26.out ?sideT).mono ?_); (case sideT => first | exact HTAB_.out.below blw_ HTAB_.out.pos | exact HTAB_.out); (case side1 => exact cw_ (Kd.V_reads' HO_3.out).2.2); (case side2 => exact (Kd.V_reads' HO_3.out).2.1); rintro e w27 ⟨v404, rfl, ho0, hb⟩; have n0_ := Aside0.mk (Kd.V_elder' (by (with_reducible repeat (first | apply Kd.V_alloc | apply Kd.V_drewN | apply Kd.V_drew)); exact HO_3.out) (Kd.R_base ho0) hb); have n1_ := Aside0.mk (Kd.S_elder' (by (with_reducible repeat (first | apply Kd.S_alloc | apply Kd.S_drewN | apply Kd.S_drew)); exact HO_4.out) (Kd.R_base ho0) hb); have n2_ := Aside0.mk (Kd.R_lower ho0 (below_size blw_)); have n3_ := Aside0.mk (below_step blw_ hb); clear HO_3; clear HO_4; clear HB; have HO_3 := n0_; have HO_4 := n1_; have HO405 := n2_; have HB := n3_; clear n0_ n1_ n2_ n3_; (try clear hb); (try clear hb2); (try clear hk); (try clear hi); (try clear ho0))); try go_wp2_with (first | (go_at_call 10; (with_reducible refine (impl_StageOf.calls _ _ t388 t403 _ ?side1 ?side2 A26.out ?sideT).mono ?_); (case sideT => first | exact HTAB_.out.below blw_ HTAB_.out.pos | exact HTAB_.out); (case side1 => exact cw_ (Kd.V_reads' HO_3.out).2.2); (case side2 => exact (Kd.V_reads' HO_3.out).2.1); rintro e w27 ⟨v404, rfl, ho0, hb⟩; have n0_ := Aside0.mk (Kd.V_elder' (by (with_reducible repeat (first | apply Kd.V_alloc | apply Kd.V_drewN | apply Kd.V_drew)); exact HO_3.out) (Kd.R_base ho0) hb); have n1_ := Aside0.mk (Kd.S_elder' (by (with_reducible repeat (first | apply Kd.S_alloc | apply Kd.S_drewN | apply Kd.S_drew)); exact HO_4.out) (Kd.R_base ho0) hb); have n2_ := Aside0.mk (Kd.R_lower ho0 (below_size blw_)); have n3_ := Aside0.mk (below_step blw_ hb); clear HO_3; clear HO_4; clear HB; have HO_3 := n0_; have HO_4 := n1_; have HO405 := n2_; have HB := n3_; clear n0_ n1_ n2_ n3_; (try clear hb); (try clear hb2); (try clear hk); (try clear hi); (try clear ho0))))
     go_loopg [6] kj4 (fun kq v6 w' => ∃ (x6_2 : Int), v6 = .int .i64 x6_2 ∧ Aside0 (laws_FnUselessNeedsNone.l0 kq t388 t391 t403 x6_2 = some r) ∧ Aside0 (kq ≤ kj4) ∧ Aside0 (Kd.V k29 29 w' w.heap.size (fun k_ => some k_ ≠ (v392 : Value).ownBlock ∧ some k_ ≠ (v404 : Value).ownBlock) (.slice Ao7 t388.length co7) t388) ∧ Aside0 (Kd.S (Kd.slice 3 (Kd.int .i64)) 25 w' w.heap.size (fun k_ => some k_ ≠ (v404 : Value).ownBlock) v392 t391) ∧ Aside0 (Kd.R (Kd.int .i64) 3 w' w.heap.size (fun _ => True) v404 t403) ∧ Aside0 (Below w.heap.size w w'))
     case atStart => exact ⟨(0), (by first | rfl | (simp; done) | (simp [*]; done)), H', ⟨Nat.le_refl _⟩, ⟨by (with_reducible repeat (first | apply Kd.V_alloc | apply Kd.V_drewN | apply Kd.V_drew)); exact HO_3.out⟩, ⟨by (with_reducible repeat (first | apply Kd.S_alloc | apply Kd.S_drewN | apply Kd.S_drew)); exact Kd.S_mono HO_4.out (fun _ hk => hk.2)⟩, ⟨rw_ HO405.out⟩, ⟨blw_⟩⟩
     case round =>
      clear H'
      try clear c1
      try clear c2
      try clear c2b0
      try clear c2b1
      try clear p2
      try clear c6
      try clear c11
      try clear c20
      try clear p2
      obtain ⟨x6_2, rfl, HA, HK2, HO_3, HO_4, HO_5, HB⟩ := hrel
      cases gk with
      | zero => exact absurd HA.out (by simp [laws_FnUselessNeedsNone.l0])
      | succ k2 =>
       have H := HA.out
       clear HA
       simp only [laws_FnUselessNeedsNone.l0] at H
       by_cases c28 : x6_2 < (t391.length : Int)
       ·rw [if_pos c28] at H
        have c28b0 : decide (x6_2 < (t391.length : Int)) = true := decide_eq_true c28
        clear c28
        by_cases c29 : 0 ≤ x6_2
        ·rw [if_pos c29] at H
         have c29b0 : decide (0 ≤ x6_2) = true := decide_eq_true c29
         clear c29
         by_cases c30 : 0 < ((rd_L1 t391 x6_2).length : Int)
         ·rw [if_pos c30] at H
          have c30b0 : decide (0 < ((rd_L1 t391 x6_2).length : Int)) = true := decide_eq_true c30
          have c30b1 : decide (0 < (rd_L1 t391 x6_2).length) = true := decide_eq_true (by omega)
          clear c30
          by_cases c31 : 0 ≤ (rd (rd_L1 t391 x6_2) 0)
          ·rw [if_pos c31] at H
           have c31b0 : decide (0 ≤ (rd (rd_L1 t391 x6_2) 0)) = true := decide_eq_true c31
           clear c31
           by_cases c32 : (rd (rd_L1 t391 x6_2) 0) < (t388.length : Int)
           ·rw [if_pos c32] at H
            have c32b0 : decide ((rd (rd_L1 t391 x6_2) 0) < (t388.length : Int)) = true := decide_eq_true c32
            clear c32
            have H' := Aside0.mk H
            clear H
            obtain ⟨Ao33, co33, eo33⟩ := Kd.S_slice HO_4.out
            subst eo33
            have p406 : 0 ≤ (x6_2 : Int) := of_decide_eq_true (by first | (with_reducible assumption) | assumption)
            have q406 : x6_2 < (t391.length : Int) := of_decide_eq_true (by first | (with_reducible assumption) | assumption)
            obtain ⟨ad406, A406_0, c406_0, e406, hx406_0, hl406_0, hi406_0⟩ := at_L1 (Kd.S_reads' HO_4.out).2.2 x6_2 p406 q406
            cases e406
            obtain ⟨ce406, hce406, hMe406, hcc406⟩ := Kd.S_get HO_4.out [] x6_2 p406 (by first | exact q406 | exact of_decide_eq_true (by first | (with_reducible assumption) | assumption) | (have e_ := (Kd.S_reads' HO_4.out).1; omega))
            obtain ⟨ve406_0, rfl, ge406_0⟩ := hMe406
            have hv406_0 := hcc406 0 _ rfl
            rw [Nat.add_zero, show ((Kd.slice 3 (Kd.int .i64))).sz = 1 from rfl, Nat.mul_one] at hv406_0
            replace hv406_0 := Option.some.inj (hv406_0.symm.trans hx406_0)
            rw [hv406_0] at ge406_0
            have HL406_0 := Aside0.mk (show Kd.R (Kd.int .i64) 3 _ _ _ _ (rd_L1 t391 x6_2) from ge406_0)
            clear hv406_0 ge406_0
            clear hcc406 hce406
            have HR406_0 := Aside0.mk hi406_0
            have HC406_0 := Aside0.mk hl406_0
            clear hi406_0 hl406_0
            replace p406 := eq_true p406
            replace q406 := eq_true q406
            have p407 : 0 ≤ (0 : Int) := (by omega)
            have q407 : 0 < ((rd_L1 t391 x6_2).length : Int) := of_decide_eq_true (by first | (with_reducible assumption) | assumption)
            obtain ⟨ad407, e407, hx407_0⟩ := Kd.at_int (by repeat (first | (with_reducible exact HR406_0.out) | (with_reducible refine Kd.C_alloc ?_ _) | (with_reducible refine Kd.C_drewN ?_ _) | (with_reducible refine Kd.C_drew ?_) | exact HR406_0.out)) 0 p407 q407
            cases e407
            have qi407 : (0 < (rd_L1 t391 x6_2).length) = True := eq_true (by omega)
            (try rw [show ((0 : Int)).toNat = 0 from rfl] at hx407_0)
            (try rw [Addr.add_zero'] at hx407_0)
            replace p407 := eq_true p407
            replace q407 := eq_true q407
            have p408 : 0 ≤ ((rd (rd_L1 t391 x6_2) 0) : Int) := of_decide_eq_true (by first | (with_reducible assumption) | assumption)
            have q408 : (rd (rd_L1 t391 x6_2) 0) < (t388.length : Int) := of_decide_eq_true (by first | (with_reducible assumption) | assumption)
            obtain ⟨ad408, A408_1, c408_1, e408, hx408_0, hx408_1, hx408_2, hx408_3, hl408_1, hi408_1⟩ := at_T29 (Kd.V_reads' HO_3.out).2.2 (rd (rd_L1 t391 x6_2) 0) p408 q408
            cases e408
            obtain ⟨ce408, hce408, hMe408, hcc408⟩ := Kd.V_get HO_3.out z29 (rd (rd_L1 t391 x6_2) 0) p408 (by first | exact q408 | exact of_decide_eq_true (by first | (with_reducible assumption) | assumption) | (have e_ := (Kd.V_reads' HO_3.out).1; omega))
            obtain ⟨ua408_1, uc408_1, rfl, ul408_1, ge408_1⟩ := k29_openF hMe408
            have hv408_1 := hcc408 1 _ rfl
            rw [add_field _ _ 1 (by omega)] at hv408_1
            replace hv408_1 := Option.some.inj (hv408_1.symm.trans hx408_1)
            injection hv408_1 with hva_ hvn_ hvc_
            rw [hva_] at ge408_1
            rw [hvc_] at ul408_1
            have HL408_1 := Aside0.mk (show Kd.V (Kd.int .i64) 3 _ w.heap.size _ _ ((rd_T29 t388 (rd (rd_L1 t391 x6_2) 0)).f1) from Kd.V_mk ul408_1 ge408_1)
            clear hva_ hvn_ hvc_ ge408_1 ul408_1
            clear hcc408 hce408
            have HR408_1 := Aside0.mk hi408_1
            have HC408_1 := Aside0.mk hl408_1
            clear hi408_1 hl408_1
            replace p408 := eq_true p408
            replace q408 := eq_true q408
            go_wp2
            repeat (go_quiet (fail); try go_wp2)
            go_loopg [8, 9] k2 (fun kq v8 v9 w' => ∃ (x8_3 : Bool) (x9_3 : Int), v8 = .bool x8_3 ∧ v9 = .int .i64 x9_3 ∧ Aside0 (laws_FnUselessNeedsNone.l1 kq t388 t391 t403 x6_2 ((rd_T29 t388 (rd (rd_L1 t391 x6_2) 0)).f1) x8_3 x9_3 = some r) ∧ Aside0 (kq ≤ k2) ∧ Aside0 (Kd.V k29 29 w' w.heap.size (fun k_ => some k_ ≠ ((.slice (some ad406) t391.length co33) : Value).ownBlock ∧ some k_ ≠ (v404 : Value).ownBlock) (.slice (some ad408) t388.length co7) t388) ∧ Aside0 (Kd.S (Kd.slice 3 (Kd.int .i64)) 25 w' w.heap.size (fun k_ => some k_ ≠ (v404 : Value).ownBlock) (.slice (some ad406) t391.length co33) t391) ∧ Aside0 (Kd.R (Kd.int .i64) 3 w' w.heap.size (fun _ => True) v404 t403) ∧ Aside0 (Kd.C (Kd.int .i64) w' (some ad407) (rd_L1 t391 x6_2).length (rd_L1 t391 x6_2)) ∧ Aside0 (Kd.C (Kd.int .i64) w' A408_1 ((rd_T29 t388 (rd (rd_L1 t391 x6_2) 0)).f1).length ((rd_T29 t388 (rd (rd_L1 t391 x6_2) 0)).f1)) ∧ Aside0 (Below w.heap.size w w'))
            case atStart => exact ⟨(false), (0), (by first | rfl | (simp; done) | (simp [*]; done)), (by first | rfl | (simp; done) | (simp [*]; done)), H', ⟨Nat.le_refl _⟩, ⟨by (with_reducible repeat (first | apply Kd.V_alloc | apply Kd.V_drewN | apply Kd.V_drew)); exact HO_3.out⟩, ⟨by (with_reducible repeat (first | apply Kd.S_alloc | apply Kd.S_drewN | apply Kd.S_drew)); exact HO_4.out⟩, ⟨rw_ HO_5.out⟩, ⟨by repeat (first | (with_reducible exact HR406_0.out) | (with_reducible refine Kd.C_alloc ?_ _) | (with_reducible refine Kd.C_drewN ?_ _) | (with_reducible refine Kd.C_drew ?_) | exact HR406_0.out)⟩, ⟨by repeat (first | (with_reducible exact HR408_1.out) | (with_reducible refine Kd.C_alloc ?_ _) | (with_reducible refine Kd.C_drewN ?_ _) | (with_reducible refine Kd.C_drew ?_) | exact HR408_1.out)⟩, ⟨blw_⟩⟩
            case round =>
             clear H'
             try clear c1
             try clear c2
             try clear c2b0
             try clear c2b1
             try clear p2
             try clear c3
             try clear c4
             try clear p4
             try clear q4
             try clear hx4
             try clear qi4
             try clear c6
             try clear c11
             try clear c20
             try clear c28
             try clear c28b0
             try clear c29
             try clear c29b0
             try clear c30
             try clear c30b0
             try clear c30b1
             try clear c31
             try clear c31b0
             try clear c32
             try clear c32b0
             try clear hx406_0
             try clear hx407_0
             try clear hx408_0
             try clear hx408_1
             try clear hx408_2
             try clear hx408_3
             try clear p2
             try clear p406
             try clear p407
             try clear p408
             try clear q406
             try clear q407
             try clear q408
             obtain ⟨x8_3, x9_3, rfl, rfl, HA, HK3, HO_3, HO_4, HO_5, HR406_0, HR408_1, HB⟩ := hrel
             cases gk with
             | zero => exact absurd HA.out (by simp [laws_FnUselessNeedsNone.l1])
             | succ k3 =>
              have H := HA.out
              clear HA
              simp only [laws_FnUselessNeedsNone.l1] at H
              by_cases c34 : x9_3 < (((rd_T29 t388 (rd (rd_L1 t391 x6_2) 0)).f1).length : Int)
              ·rw [if_pos c34] at H
               have c34b0 : decide (x9_3 < (((rd_T29 t388 (rd (rd_L1 t391 x6_2) 0)).f1).length : Int)) = true := decide_eq_true c34
               clear c34
               by_cases c35 : x8_3 = true
               ·subst c35
                have H1 : (laws_FnUselessNeedsNone.l1 k3 t388 t391 t403 x6_2 ((rd_T29 t388 (rd (rd_L1 t391 x6_2) 0)).f1) true (wrap64 (x9_3 + 1))) = some r := by rw [if_pos rfl] at H; exact H
                clear H
                have H := H1
                clear H1
                have H' := Aside0.mk H
                clear H
                go_wp2
                repeat (go_quiet (fail); try go_wp2)
                go_roundg k3
                case measure => have := HJ4.out; have := HK2.out; have := HK3.out; omega
                case rel => exact ⟨(true), (wrap64 (x9_3 + 1)), (by first | rfl | (simp; done) | (simp [*]; done)), (by first | rfl | (simp; done) | (simp [*]; done)), H', ⟨by have := HJ4.out; have := HK2.out; have := HK3.out; omega⟩, ⟨by (with_reducible repeat (first | apply Kd.V_alloc | apply Kd.V_drewN | apply Kd.V_drew)); exact HO_3.out⟩, ⟨by (with_reducible repeat (first | apply Kd.S_alloc | apply Kd.S_drewN | apply Kd.S_drew)); exact HO_4.out⟩, ⟨rw_ HO_5.out⟩, ⟨by repeat (first | (with_reducible exact HR406_0.out) | (with_reducible refine Kd.C_alloc ?_ _) | (with_reducible refine Kd.C_drewN ?_ _) | (with_reducible refine Kd.C_drew ?_) | exact HR406_0.out)⟩, ⟨by repeat (first | (with_reducible exact HR408_1.out) | (with_reducible refine Kd.C_alloc ?_ _) | (with_reducible refine Kd.C_drewN ?_ _) | (with_reducible refine Kd.C_drew ?_) | exact HR408_1.out)⟩, ⟨blw_⟩⟩
               ·replace c35 := Bool.eq_false_iff.mpr c35
                subst c35
                have H1 : (if 0 ≤ x9_3 then (if 0 ≤ (rd ((rd_T29 t388 (rd (rd_L1 t391 x6_2) 0)).f1) x9_3) then (if (rd ((rd_T29 t388 (rd (rd_L1 t391 x6_2) 0)).f1) x9_3) < (t403.length : Int) then (if 0 ≤ x6_2 then (if x6_2 < (t391.length : Int) then (if 1 < ((rd_L1 t391 x6_2).length : Int) then (if 0 ≤ (rd (rd_L1 t391 x6_2) 1) then (if (rd (rd_L1 t391 x6_2) 1) < (t403.length : Int) then (laws_FnUselessNeedsNone.l1 k3 t388 t391 t403 x6_2 ((rd_T29 t388 (rd (rd_L1 t391 x6_2) 0)).f1) (decide ((rd t403 (rd ((rd_T29 t388 (rd (rd_L1 t391 x6_2) 0)).f1) x9_3)) > (rd t403 (rd (rd_L1 t391 x6_2) 1)))) (wrap64 (x9_3 + 1))) else (none)) else (none)) else (none)) else (none)) else (none)) else (none)) else (none)) else (none)) = some r := by rw [if_neg (show ¬ (false = true) by decide)] at H; exact H
                clear H
                have H := H1
                clear H1
                by_cases c36 : 0 ≤ x9_3
                ·rw [if_pos c36] at H
                 have c36b0 : decide (0 ≤ x9_3) = true := decide_eq_true c36
                 clear c36
                 by_cases c37 : 0 ≤ (rd ((rd_T29 t388 (rd (rd_L1 t391 x6_2) 0)).f1) x9_3)
                 ·rw [if_pos c37] at H
                  have c37b0 : decide (0 ≤ (rd ((rd_T29 t388 (rd (rd_L1 t391 x6_2) 0)).f1) x9_3)) = true := decide_eq_true c37
                  clear c37
                  by_cases c38 : (rd ((rd_T29 t388 (rd (rd_L1 t391 x6_2) 0)).f1) x9_3) < (t403.length : Int)
                  ·rw [if_pos c38] at H
                   have c38b0 : decide ((rd ((rd_T29 t388 (rd (rd_L1 t391 x6_2) 0)).f1) x9_3) < (t403.length : Int)) = true := decide_eq_true c38
                   clear c38
                   by_cases c39 : 0 ≤ x6_2
                   ·rw [if_pos c39] at H
                    have c39b0 : decide (0 ≤ x6_2) = true := decide_eq_true c39
                    clear c39
                    by_cases c40 : x6_2 < (t391.length : Int)
                    ·rw [if_pos c40] at H
                     have c40b0 : decide (x6_2 < (t391.length : Int)) = true := decide_eq_true c40
                     clear c40
                     by_cases c41 : 1 < ((rd_L1 t391 x6_2).length : Int)
                     ·rw [if_pos c41] at H
                      have c41b0 : decide (1 < ((rd_L1 t391 x6_2).length : Int)) = true := decide_eq_true c41
                      have c41b1 : decide (1 < (rd_L1 t391 x6_2).length) = true := decide_eq_true (by omega)
                      clear c41
                      by_cases c42 : 0 ≤ (rd (rd_L1 t391 x6_2) 1)
                      ·rw [if_pos c42] at H
                       have c42b0 : decide (0 ≤ (rd (rd_L1 t391 x6_2) 1)) = true := decide_eq_true c42
                       clear c42
                       by_cases c43 : (rd (rd_L1 t391 x6_2) 1) < (t403.length : Int)
                       ·rw [if_pos c43] at H
                        have c43b0 : decide ((rd (rd_L1 t391 x6_2) 1) < (t403.length : Int)) = true := decide_eq_true c43
                        clear c43
                        have H' := Aside0.mk H
                        clear H
                        have p409 : 0 ≤ (x9_3 : Int) := of_decide_eq_true (by first | (with_reducible assumption) | assumption)
                        have q409 : x9_3 < (((rd_T29 t388 (rd (rd_L1 t391 x6_2) 0)).f1).length : Int) := of_decide_eq_true (by first | (with_reducible assumption) | assumption)
                        obtain ⟨ad409, e409, hx409_0⟩ := Kd.at_int HR408_1.out x9_3 p409 q409
                        cases e409
                        (first | replace hx409_0 := (HB.out.cell (World.block_lt_of_cell? w _ hx409_0)).trans hx409_0 | skip)
                        replace p409 := eq_true p409
                        replace q409 := eq_true q409
                        obtain ⟨Ao44, co44, eo44⟩ := Kd.R_slice HO_5.out
                        subst eo44
                        have p410 : 0 ≤ ((rd ((rd_T29 t388 (rd (rd_L1 t391 x6_2) 0)).f1) x9_3) : Int) := of_decide_eq_true (by first | (with_reducible assumption) | assumption)
                        have q410 : (rd ((rd_T29 t388 (rd (rd_L1 t391 x6_2) 0)).f1) x9_3) < (t403.length : Int) := of_decide_eq_true (by first | (with_reducible assumption) | assumption)
                        obtain ⟨ad410, e410, hx410_0⟩ := Kd.at_int (Kd.R_reads' HO_5.out).2.2 (rd ((rd_T29 t388 (rd (rd_L1 t391 x6_2) 0)).f1) x9_3) p410 q410
                        cases e410
                        replace p410 := eq_true p410
                        replace q410 := eq_true q410
                        have p411 : 0 ≤ (x6_2 : Int) := of_decide_eq_true (by first | (with_reducible assumption) | assumption)
                        have q411 : x6_2 < (t391.length : Int) := of_decide_eq_true (by first | (with_reducible assumption) | assumption)
                        obtain ⟨ad411, A411_0, c411_0, e411, hx411_0, hl411_0, hi411_0⟩ := at_L1 (Kd.S_reads' HO_4.out).2.2 x6_2 p411 q411
                        obtain rfl : ad406 = ad411 := (by injection e411)
                        obtain ⟨ce411, hce411, hMe411, hcc411⟩ := Kd.S_get HO_4.out [] x6_2 p411 (by first | exact q411 | exact of_decide_eq_true (by first | (with_reducible assumption) | assumption) | (have e_ := (Kd.S_reads' HO_4.out).1; omega))
                        obtain ⟨ve411_0, rfl, ge411_0⟩ := hMe411
                        have hv411_0 := hcc411 0 _ rfl
                        rw [Nat.add_zero, show ((Kd.slice 3 (Kd.int .i64))).sz = 1 from rfl, Nat.mul_one] at hv411_0
                        replace hv411_0 := Option.some.inj (hv411_0.symm.trans hx411_0)
                        rw [hv411_0] at ge411_0
                        have HL411_0 := Aside0.mk (show Kd.R (Kd.int .i64) 3 _ _ _ _ (rd_L1 t391 x6_2) from ge411_0)
                        clear hv411_0 ge411_0
                        clear hcc411 hce411
                        have HR411_0 := Aside0.mk hi411_0
                        have HC411_0 := Aside0.mk hl411_0
                        clear hi411_0 hl411_0
                        replace p411 := eq_true p411
                        replace q411 := eq_true q411
                        have p412 : 0 ≤ (1 : Int) := (by omega)
                        have q412 : 1 < ((rd_L1 t391 x6_2).length : Int) := of_decide_eq_true (by first | (with_reducible assumption) | assumption)
                        obtain ⟨ad412, e412, hx412_0⟩ := Kd.at_int (by repeat (first | (with_reducible exact HR411_0.out) | (with_reducible refine Kd.C_alloc ?_ _) | (with_reducible refine Kd.C_drewN ?_ _) | (with_reducible refine Kd.C_drew ?_) | exact HR411_0.out)) 1 p412 q412
                        cases e412
                        (try simp only [show (1 : Int).toNat = 1 from rfl, Nat.reduceMul, Nat.reduceEqDiff, Go.Addr.add, ↓reduceIte] at hx412_0)
                        have qi412 : (1 < (rd_L1 t391 x6_2).length) = True := eq_true (by omega)
                        (try rw [show ((1 : Int)).toNat = 1 from rfl] at hx412_0)
                        replace p412 := eq_true p412
                        replace q412 := eq_true q412
                        have p413 : 0 ≤ ((rd (rd_L1 t391 x6_2) 1) : Int) := of_decide_eq_true (by first | (with_reducible assumption) | assumption)
                        have q413 : (rd (rd_L1 t391 x6_2) 1) < (t403.length : Int) := of_decide_eq_true (by first | (with_reducible assumption) | assumption)
                        obtain ⟨ad413, e413, hx413_0⟩ := Kd.at_int (Kd.R_reads' HO_5.out).2.2 (rd (rd_L1 t391 x6_2) 1) p413 q413
                        obtain rfl : ad410 = ad413 := (by injection e413)
                        replace p413 := eq_true p413
                        replace q413 := eq_true q413
                        go_wp2
                        repeat (go_quiet (fail); try go_wp2)
                        go_roundg k3
                        case measure => have := HJ4.out; have := HK2.out; have := HK3.out; omega
                        case rel => exact ⟨(decide ((rd t403 (rd ((rd_T29 t388 (rd (rd_L1 t391 x6_2) 0)).f1) x9_3)) > (rd t403 (rd (rd_L1 t391 x6_2) 1)))), (wrap64 (x9_3 + 1)), (by first | rfl | (simp; done) | (simp [*]; done)), (by first | rfl | (simp; done) | (simp [*]; done)), H', ⟨by have := HJ4.out; have := HK2.out; have := HK3.out; omega⟩, ⟨by (with_reducible repeat (first | apply Kd.V_alloc | apply Kd.V_drewN | apply Kd.V_drew)); exact HO_3.out⟩, ⟨by (with_reducible repeat (first | apply Kd.S_alloc | apply Kd.S_drewN | apply Kd.S_drew)); exact HO_4.out⟩, ⟨rw_ HO_5.out⟩, ⟨by repeat (first | (with_reducible exact HR406_0.out) | (with_reducible refine Kd.C_alloc ?_ _) | (with_reducible refine Kd.C_drewN ?_ _) | (with_reducible refine Kd.C_drew ?_) | exact HR406_0.out)⟩, ⟨by repeat (first | (with_reducible exact HR408_1.out) | (with_reducible refine Kd.C_alloc ?_ _) | (with_reducible refine Kd.C_drewN ?_ _) | (with_reducible refine Kd.C_drew ?_) | exact HR408_1.out)⟩, ⟨blw_⟩⟩
                       ·rw [if_neg c43] at H
                        exact absurd H (by simp)
                      ·rw [if_neg c42] at H
                       exact absurd H (by simp)
                     ·rw [if_neg c41] at H
                      exact absurd H (by simp)
                    ·rw [if_neg c40] at H
                     exact absurd H (by simp)
                   ·rw [if_neg c39] at H
                    exact absurd H (by simp)
                  ·rw [if_neg c38] at H
                   exact absurd H (by simp)
                 ·rw [if_neg c37] at H
                  exact absurd H (by simp)
                ·rw [if_neg c36] at H
                 exact absurd H (by simp)
              ·rw [if_neg c34] at H
               have c34b0 : decide (x9_3 < (((rd_T29 t388 (rd (rd_L1 t391 x6_2) 0)).f1).length : Int)) = false := decide_eq_false c34
               clear c34
               by_cases c45 : x8_3 = true
               ·subst c45
                have H1 : (laws_FnUselessNeedsNone.l0 k3 t388 t391 t403 (wrap64 (x6_2 + 1))) = some r := by rw [if_pos rfl] at H; exact H
                clear H
                have H := H1
                clear H1
                have H' := Aside0.mk H
                clear H
                go_wp2
                repeat (go_quiet (fail); try go_wp2)
                go_roundg k3
                case measure => have := HJ4.out; have := HK2.out; have := HK3.out; omega
                case rel => exact ⟨(wrap64 (x6_2 + 1)), (by first | rfl | (simp; done) | (simp [*]; done)), H', ⟨by have := HJ4.out; have := HK2.out; have := HK3.out; omega⟩, ⟨by (with_reducible repeat (first | apply Kd.V_alloc | apply Kd.V_drewN | apply Kd.V_drew)); exact HO_3.out⟩, ⟨by (with_reducible repeat (first | apply Kd.S_alloc | apply Kd.S_drewN | apply Kd.S_drew)); exact HO_4.out⟩, ⟨rw_ HO_5.out⟩, ⟨blw_⟩⟩
               ·replace c45 := Bool.eq_false_iff.mpr c45
                subst c45
                have H1 : (some false) = some r := by rw [if_neg (show ¬ (false = true) by decide)] at H; exact H
                clear H
                have H := H1
                clear H1
                obtain rfl := Option.some.inj H
                go_wp2
                repeat (go_quiet (fail); try go_wp2)
                go_ret
                exact ⟨by first | rfl | (simp [errW_none, errW_some] <;> rfl) | (simp [*, errW_none, errW_some] <;> rfl), blw_⟩
           ·rw [if_neg c32] at H
            exact absurd H (by simp)
          ·rw [if_neg c31] at H
           exact absurd H (by simp)
         ·rw [if_neg c30] at H
          exact absurd H (by simp)
        ·rw [if_neg c29] at H
         exact absurd H (by simp)
       ·rw [if_neg c28] at H
        have c28b0 : decide (x6_2 < (t391.length : Int)) = false := decide_eq_false c28
        clear c28
        obtain rfl := Option.some.inj H
        obtain ⟨Ao46, co46, eo46⟩ := Kd.S_slice HO_4.out
        subst eo46
        go_wp2
        repeat (go_quiet (fail); try go_wp2)
        go_ret
        exact ⟨by first | rfl | (simp [errW_none, errW_some] <;> rfl) | (simp [*, errW_none, errW_some] <;> rfl), blw_⟩

/-- THE ONE PURE STATEMENT of laws_FnUselessNeedsNone: yours. -/
def laws_FnUselessNeedsNone.Pure : Prop := ∀ (l0 : List Int), l0.length ≤ maxLen → l0.length * 1 ≤ 140737488351232 → (∀ x ∈ l0, (Lit.int .u8 x).wf = true) → ∃ k, laws_FnUselessNeedsNone.f k l0 = some true
theorem laws_FnUselessNeedsNone.walk (P : laws_FnUselessNeedsNone.Pure) (a0 : Option Addr) (len0 cap0 : Nat) (z0 : List Int) (w : World) (w0 : (a0 = none ∧ len0 = 0 ∧ cap0 = 0 ∧ z0 = []) ∨ ∃ x, a0 = some x ∧ len0 ≤ cap0 ∧ cap0 ≤ maxLen ∧ z0.length = cap0 ∧ (∀ i, i < z0.length → w.cell? (x.add i) = some (.int .u8 (z0.getD i 0))) ∧ ∀ n ∈ z0, (Lit.int .u8 n).wf = true) (y0 : len0 * 1 ≤ 140737488351232) (hT_ : Tab w) :
  Calls Tryd.prog 6 #[.slice a0 len0 cap0] w fun e w' => e = .returned (.bool true) ∧ Below w.heap.size w w' := by
 obtain ⟨l0, rfl, hr0, hm0, hw0, hc0⟩ := ReadsInt.ofRowC w0
 obtain ⟨k, h⟩ := P l0 hm0 y0 hw0
 refine (laws_FnUselessNeedsNone.calls k _ _ l0 true w (Kd.C_of_reads (d := (0 : Int)) (h1 := fun _ => rfl) hr0) hc0 h hT_).mono ?_
 rintro e w' ⟨rfl, hd⟩
 exact ⟨rfl, hd⟩

end Go.Proofs.YtbodhggmhbiebaaDoor.G
