-- SLIM
-- Written by hyb.py, a driver of this session round the print.py of the kit. Lean checks it.
import Derived.BigQuiet
import Derived.Test.YtflponipbdgkeaaWRepsOne
import Derived.Test.YtflponipbdgkeaaG0
import Derived.Test.YtflponipbdgkeaaG1
import Derived.Test.YtflponipbdgkeaaG4
import Derived.Test.YtflponipbdgkeaaG6
import Derived.Test.YtflponipbdgkeaaG7
import Derived.Test.YtflponipbdgkeaaHN
import Derived.Test.YtflponipbdgkeaaHS
namespace Go.Proofs.Ytflponipbdgkeaa.G
open Go.RowKit Go.Proofs.YtflponipbdgkeaaW.PrintWords Go.Proofs.YtflponipbdgkeaaW.PrintLast Go.Proofs.YtflponipbdgkeaaW.PrintMore
attribute [local go_sem] max2_int min2_int max_two min_two max_three min_three max_four min_four   -- for this text's walks alone
set_option linter.unusedVariables false
set_option linter.unusedSimpArgs false

attribute [local go_sem high] eqA30
/-! ### laws_FnServeUser: function 3 -/
mutual
def laws_FnServeUser.j0 : Nat → List (S30) → Int → List (S30) → Int → Bool → List (S30) → Int → Bool → Bool → Option (Bool)
 | 0, _, _, _, _, _, _, _, _, _ => none
 | k + 1, x3, x4, x5, x6, x7, x8, x9, x10, x52 => if x52 = true then ((laws_equalUsers.f k x5 x8).bind fun t220 => (if t220 = true then (if x6 = x9 then (some (x7 == x10)) else (some false)) else (some false))) else (laws_FnServeUser.l0 k x3 x4 x5 x6 0)
def laws_FnServeUser.l0 : Nat → List (S30) → Int → List (S30) → Int → Int → Option (Bool)
 | 0, _, _, _, _, _ => none
 | k + 1, x3, x4, x5, x6, x11 => if x11 < (x3.length : Int) then (if 0 ≤ x11 then (if x11 = x6 then (if x11 ≥ (x5.length : Int) then (some false) else (if x11 < (x5.length : Int) then (if (!(((rd_T30 x5 x11).f0) == ((rd_T30 x3 x11).f0)) || (!(((rd_T30 x5 x11).f1) == (mn (wrap64 (((rd_T30 x3 x11).f1) + x4)) 10000)) || (!(((rd_T30 x5 x11).f2) == (wrap64 (((rd_T30 x3 x11).f2) - 1)))))) = true then (some false) else (laws_FnServeUser.l0 k x3 x4 x5 x6 (wrap64 (x11 + 1)))) else (none))) else (if x11 ≥ (x5.length : Int) then (some false) else (if x11 < (x5.length : Int) then (if (!(((rd_T30 x5 x11).f0) == ((rd_T30 x3 x11).f0)) || (!(((rd_T30 x5 x11).f1) == ((rd_T30 x3 x11).f1)) || (!(((rd_T30 x5 x11).f2) == ((rd_T30 x3 x11).f2))))) = true then (some false) else (laws_FnServeUser.l0 k x3 x4 x5 x6 (wrap64 (x11 + 1)))) else (none)))) else (none)) else ((impl_NextUser.f x3).bind fun t221 => (if x6 = t221 then ((impl_ValidUsers.f k x5).bind fun t222 => (some t222)) else (some false)))
end
def laws_FnServeUser.f (k : Nat) (l0 : List Int) : Option (Bool) := if (l0.length : Int) > 1048576 then (some true) else ((spec_DrawServeUser.f k l0).bind fun bt205 => ((impl_ServeUser.f bt205.1 bt205.2).bind fun bt209 => ((spec_ServeUser.f k bt205.1 bt205.2).bind fun bt214 => ((laws_equalUsers.f k bt209.1 bt214.1).bind fun t219 => (if t219 = true then (if bt209.2.1 = bt214.2.1 then (if (bt209.2.2 != bt214.2.2) = true then (laws_FnServeUser.j0 k bt205.1 bt205.2 bt209.1 bt209.2.1 bt209.2.2 bt214.1 bt214.2.1 bt214.2.2 true) else (laws_FnServeUser.j0 k bt205.1 bt205.2 bt209.1 bt209.2.1 bt209.2.2 bt214.1 bt214.2.1 bt214.2.2 (!bt209.2.2))) else (laws_FnServeUser.j0 k bt205.1 bt205.2 bt209.1 bt209.2.1 bt209.2.2 bt214.1 bt214.2.1 bt214.2.2 true)) else (laws_FnServeUser.j0 k bt205.1 bt205.2 bt209.1 bt209.2.1 bt209.2.2 bt214.1 bt214.2.1 bt214.2.2 true))))))
set_option maxHeartbeats 64000000 in
set_option maxRecDepth 100000 in
theorem laws_FnServeUser.calls (k : Nat) (A0 : Option Addr) (c0 : Nat) (l0 : List Int) (r : Bool) (w : World) (hr0 : Kd.C (Kd.int .u8) w A0 l0.length l0) (hc0 : l0.length ≤ c0) (h : laws_FnServeUser.f k l0 = some r) :
  Calls Try.prog 3 #[.slice A0 l0.length c0] w fun e w' => e = .returned (.bool r) ∧ Below w.heap.size w w' := by
 have hu30 := Try.underlying30
 have HR0 := Aside0.mk hr0
 have HC0 := Aside0.mk hc0
 clear hr0 hc0
 have HB := Aside0.mk (Below.refl w.heap.size w)
 have H : (if (l0.length : Int) > 1048576 then (some true) else ((spec_DrawServeUser.f k l0).bind fun bt205 => ((impl_ServeUser.f bt205.1 bt205.2).bind fun bt209 => ((spec_ServeUser.f k bt205.1 bt205.2).bind fun bt214 => ((laws_equalUsers.f k bt209.1 bt214.1).bind fun t219 => (if t219 = true then (if bt209.2.1 = bt214.2.1 then (if (bt209.2.2 != bt214.2.2) = true then (laws_FnServeUser.j0 k bt205.1 bt205.2 bt209.1 bt209.2.1 bt209.2.2 bt214.1 bt214.2.1 bt214.2.2 true) else (laws_FnServeUser.j0 k bt205.1 bt205.2 bt209.1 bt209.2.1 bt209.2.2 bt214.1 bt214.2.1 bt214.2.2 (!bt209.2.2))) else (laws_FnServeUser.j0 k bt205.1 bt205.2 bt209.1 bt209.2.1 bt209.2.2 bt214.1 bt214.2.1 bt214.2.2 true)) else (laws_FnServeUser.j0 k bt205.1 bt205.2 bt209.1 bt209.2.1 bt209.2.2 bt214.1 bt214.2.1 bt214.2.2 true))))))) = some r := h
 clear h
 by_cases c2 : (l0.length : Int) > 1048576
 ·rw [if_pos c2] at H
  have c2b0 : decide (1048576 < (l0.length : Int)) = true := decide_eq_true c2
  have c2b1 : decide (1048576 < l0.length) = true := decide_eq_true (by omega)
  clear c2
  obtain rfl := Option.some.inj H
  go_enter Try.func3, Try.ntmps3
  go_wp2
  repeat (go_quiet (fail); try go_wp2)
  go_ret
  exact ⟨by first | rfl | (simp [errW_none, errW_some] <;> rfl) | (simp [*, errW_none, errW_some] <;> rfl), blw_⟩
 ·rw [if_neg c2] at H
  have c2b0 : decide (1048576 < (l0.length : Int)) = false := decide_eq_false c2
  have c2b1 : decide (1048576 < l0.length) = false := decide_eq_false (by omega)
  clear c2
  replace H := Option.bind_eq_some_iff.mp H
  obtain ⟨⟨t205, t206⟩, A30, H⟩ := H
  replace H : ((impl_ServeUser.f t205 t206).bind fun bt209 => ((spec_ServeUser.f k t205 t206).bind fun bt214 => ((laws_equalUsers.f k bt209.1 bt214.1).bind fun t219 => (if t219 = true then (if bt209.2.1 = bt214.2.1 then (if (bt209.2.2 != bt214.2.2) = true then (laws_FnServeUser.j0 k t205 t206 bt209.1 bt209.2.1 bt209.2.2 bt214.1 bt214.2.1 bt214.2.2 true) else (laws_FnServeUser.j0 k t205 t206 bt209.1 bt209.2.1 bt209.2.2 bt214.1 bt214.2.1 bt214.2.2 (!bt209.2.2))) else (laws_FnServeUser.j0 k t205 t206 bt209.1 bt209.2.1 bt209.2.2 bt214.1 bt214.2.1 bt214.2.2 true)) else (laws_FnServeUser.j0 k t205 t206 bt209.1 bt209.2.1 bt209.2.2 bt214.1 bt214.2.1 bt214.2.2 true))))) = some r := H
  have A3 := Aside0.mk A30
  clear A30
  replace H := Option.bind_eq_some_iff.mp H
  obtain ⟨⟨t209, t210, t211⟩, A40, H⟩ := H
  replace H : ((spec_ServeUser.f k t205 t206).bind fun bt214 => ((laws_equalUsers.f k t209 bt214.1).bind fun t219 => (if t219 = true then (if t210 = bt214.2.1 then (if (t211 != bt214.2.2) = true then (laws_FnServeUser.j0 k t205 t206 t209 t210 t211 bt214.1 bt214.2.1 bt214.2.2 true) else (laws_FnServeUser.j0 k t205 t206 t209 t210 t211 bt214.1 bt214.2.1 bt214.2.2 (!t211))) else (laws_FnServeUser.j0 k t205 t206 t209 t210 t211 bt214.1 bt214.2.1 bt214.2.2 true)) else (laws_FnServeUser.j0 k t205 t206 t209 t210 t211 bt214.1 bt214.2.1 bt214.2.2 true)))) = some r := H
  have A4 := Aside0.mk A40
  clear A40
  replace H := Option.bind_eq_some_iff.mp H
  obtain ⟨⟨t214, t215, t216⟩, A50, H⟩ := H
  replace H : ((laws_equalUsers.f k t209 t214).bind fun t219 => (if t219 = true then (if t210 = t215 then (if (t211 != t216) = true then (laws_FnServeUser.j0 k t205 t206 t209 t210 t211 t214 t215 t216 true) else (laws_FnServeUser.j0 k t205 t206 t209 t210 t211 t214 t215 t216 (!t211))) else (laws_FnServeUser.j0 k t205 t206 t209 t210 t211 t214 t215 t216 true)) else (laws_FnServeUser.j0 k t205 t206 t209 t210 t211 t214 t215 t216 true))) = some r := H
  have A5 := Aside0.mk A50
  clear A50
  have HC6 := Aside0.mk H
  clear H
  go_enter Try.func3, Try.ntmps3
  go_upto_region 6 with (first | (go_at_call 5; (with_reducible refine (spec_DrawServeUser.calls k _ _ l0 t205 t206 _ ?side1 ?side2 A3.out).mono ?_); (case side1 => exact cw_ HR0.out); (case side2 => exact HC0.out); rintro e w7 ⟨v207, rfl, ho0, hb⟩; have n0_ := Aside0.mk (Kd.R_lower ho0 (below_size blw_)); have n1_ := Aside0.mk (below_step blw_ hb); clear HB; have HO208 := n0_; have HB := n1_; clear n0_ n1_; (try clear hb); (try clear hb2); (try clear hk); (try clear hi); (try clear ho0); obtain ⟨Ao8, co8, eo8⟩ := Kd.R_slice HO208.out; subst eo8) | (go_at_call 6; (with_reducible refine (impl_ServeUser.calls _ _ t205 t206 t209 t210 t211 _ ?side1 ?side2 A4.out).mono ?_); (case side1 => exact cw_ (Kd.R_reads' HO208.out).2.2); (case side2 => exact (Kd.R_reads' HO208.out).2.1); rintro e w9 ⟨v212, rfl, ho0, hb⟩; have n0_ := Aside0.mk (Kd.R_elder' (by (with_reducible repeat (first | apply Kd.R_alloc | apply Kd.R_drewN | apply Kd.R_drew)); exact HO208.out) (Kd.R_base ho0) hb); have n1_ := Aside0.mk (Kd.R_lower (Kd.R_new' ho0 (Kd.R_lt (by (with_reducible repeat (first | apply Kd.R_alloc | apply Kd.R_drewN | apply Kd.R_drew)); exact HO208.out))) (below_size blw_)); have n2_ := Aside0.mk (below_step blw_ hb); clear HO208; clear HB; have HO208 := n0_; have HO213 := n1_; have HB := n2_; clear n0_ n1_ n2_; (try clear hb); (try clear hb2); (try clear hk); (try clear hi); (try clear ho0)) | (go_at_call 7; (with_reducible refine (spec_ServeUser.calls k _ _ t205 t206 t214 t215 t216 _ ?side1 ?side2 A5.out).mono ?_); (case side1 => exact cw_ (Kd.R_reads' HO208.out).2.2); (case side2 => exact (Kd.R_reads' HO208.out).2.1); rintro e w10 ⟨v217, rfl, ho0, hb⟩; have n0_ := Aside0.mk (Kd.R_elder' (by (with_reducible repeat (first | apply Kd.R_alloc | apply Kd.R_drewN | apply Kd.R_drew)); exact HO208.out) (Kd.R_base ho0) hb); have n1_ := Aside0.mk (Kd.R_elder' (by (with_reducible repeat (first | apply Kd.R_alloc | apply Kd.R_drewN | apply Kd.R_drew)); exact HO213.out) (Kd.R_base ho0) hb); have n2_ := Aside0.mk (Kd.R_lower (Kd.R_new' (Kd.R_new' ho0 (Kd.R_lt (by (with_reducible repeat (first | apply Kd.R_alloc | apply Kd.R_drewN | apply Kd.R_drew)); exact HO208.out))) (Kd.R_lt (by (with_reducible repeat (first | apply Kd.R_alloc | apply Kd.R_drewN | apply Kd.R_drew)); exact HO213.out))) (below_size blw_)); have n3_ := Aside0.mk (below_step blw_ hb); clear HO208; clear HO213; clear HB; have HO208 := n0_; have HO213 := n1_; have HO218 := n2_; have HB := n3_; clear n0_ n1_ n2_ n3_; (try clear hb); (try clear hb2); (try clear hk); (try clear hi); (try clear ho0)))
  repeat (go_quiet (first | (go_at_call 5; (with_reducible refine (spec_DrawServeUser.calls k _ _ l0 t205 t206 _ ?side1 ?side2 A3.out).mono ?_); (case side1 => exact cw_ HR0.out); (case side2 => exact HC0.out); rintro e w7 ⟨v207, rfl, ho0, hb⟩; have n0_ := Aside0.mk (Kd.R_lower ho0 (below_size blw_)); have n1_ := Aside0.mk (below_step blw_ hb); clear HB; have HO208 := n0_; have HB := n1_; clear n0_ n1_; (try clear hb); (try clear hb2); (try clear hk); (try clear hi); (try clear ho0); obtain ⟨Ao8, co8, eo8⟩ := Kd.R_slice HO208.out; subst eo8) | (go_at_call 6; (with_reducible refine (impl_ServeUser.calls _ _ t205 t206 t209 t210 t211 _ ?side1 ?side2 A4.out).mono ?_); (case side1 => exact cw_ (Kd.R_reads' HO208.out).2.2); (case side2 => exact (Kd.R_reads' HO208.out).2.1); rintro e w9 ⟨v212, rfl, ho0, hb⟩; have n0_ := Aside0.mk (Kd.R_elder' (by (with_reducible repeat (first | apply Kd.R_alloc | apply Kd.R_drewN | apply Kd.R_drew)); exact HO208.out) (Kd.R_base ho0) hb); have n1_ := Aside0.mk (Kd.R_lower (Kd.R_new' ho0 (Kd.R_lt (by (with_reducible repeat (first | apply Kd.R_alloc | apply Kd.R_drewN | apply Kd.R_drew)); exact HO208.out))) (below_size blw_)); have n2_ := Aside0.mk (below_step blw_ hb); clear HO208; clear HB; have HO208 := n0_; have HO213 := n1_; have HB := n2_; clear n0_ n1_ n2_; (try clear hb); (try clear hb2); (try clear hk); (try clear hi); (try clear ho0)) | (go_at_call 7; (with_reducible refine (spec_ServeUser.calls k _ _ t205 t206 t214 t215 t216 _ ?side1 ?side2 A5.out).mono ?_); (case side1 => exact cw_ (Kd.R_reads' HO208.out).2.2); (case side2 => exact (Kd.R_reads' HO208.out).2.1); rintro e w10 ⟨v217, rfl, ho0, hb⟩; have n0_ := Aside0.mk (Kd.R_elder' (by (with_reducible repeat (first | apply Kd.R_alloc | apply Kd.R_drewN | apply Kd.R_drew)); exact HO208.out) (Kd.R_base ho0) hb); have n1_ := Aside0.mk (Kd.R_elder' (by (with_reducible repeat (first | apply Kd.R_alloc | apply Kd.R_drewN | apply Kd.R_drew)); exact HO213.out) (Kd.R_base ho0) hb); have n2_ := Aside0.mk (Kd.R_lower (Kd.R_new' (Kd.R_new' ho0 (Kd.R_lt (by (with_reducible repeat (first | apply Kd.R_alloc | apply Kd.R_drewN | apply Kd.R_drew)); exact HO208.out))) (Kd.R_lt (by (with_reducible repeat (first | apply Kd.R_alloc | apply Kd.R_drewN | apply Kd.R_drew)); exact HO213.out))) (below_size blw_)); have n3_ := Aside0.mk (below_step blw_ hb); clear HO208; clear HO213; clear HB; have HO208 := n0_; have HO213 := n1_; have HO218 := n2_; have HB := n3_; clear n0_ n1_ n2_ n3_; (try clear hb); (try clear hb2); (try clear hk); (try clear hi); (try clear ho0))); go_upto_region 6 with (first | (go_at_call 5; (with_reducible refine (spec_DrawServeUser.calls k _ _ l0 t205 t206 _ ?side1 ?side2 A3.out).mono ?_); (case side1 => exact cw_ HR0.out); (case side2 => exact HC0.out); rintro e w7 ⟨v207, rfl, ho0, hb⟩; have n0_ := Aside0.mk (Kd.R_lower ho0 (below_size blw_)); have n1_ := Aside0.mk (below_step blw_ hb); clear HB; have HO208 := n0_; have HB := n1_; clear n0_ n1_; (try clear hb); (try clear hb2); (try clear hk); (try clear hi); (try clear ho0); obtain ⟨Ao8, co8, eo8⟩ := Kd.R_slice HO208.out; subst eo8) | (go_at_call 6; (with_reducible refine (impl_ServeUser.calls _ _ t205 t206 t209 t210 t211 _ ?side1 ?side2 A4.out).mono ?_); (case side1 => exact cw_ (Kd.R_reads' HO208.out).2.2); (case side2 => exact (Kd.R_reads' HO208.out).2.1); rintro e w9 ⟨v212, rfl, ho0, hb⟩; have n0_ := Aside0.mk (Kd.R_elder' (by (with_reducible repeat (first | apply Kd.R_alloc | apply Kd.R_drewN | apply Kd.R_drew)); exact HO208.out) (Kd.R_base ho0) hb); have n1_ := Aside0.mk (Kd.R_lower (Kd.R_new' ho0 (Kd.R_lt (by (with_reducible repeat (first | apply Kd.R_alloc | apply Kd.R_drewN | apply Kd.R_drew)); exact HO208.out))) (below_size blw_)); have n2_ := Aside0.mk (below_step blw_ hb); clear HO208; clear HB; have HO208 := n0_; have HO213 := n1_; have HB := n2_; clear n0_ n1_ n2_; (try clear hb); (try clear hb2); (try clear hk); (try clear hi); (try clear ho0)) | (go_at_call 7; (with_reducible refine (spec_ServeUser.calls k _ _ t205 t206 t214 t215 t216 _ ?side1 ?side2 A5.out).mono ?_); (case side1 => exact cw_ (Kd.R_reads' HO208.out).2.2); (case side2 => exact (Kd.R_reads' HO208.out).2.1); rintro e w10 ⟨v217, rfl, ho0, hb⟩; have n0_ := Aside0.mk (Kd.R_elder' (by (with_reducible repeat (first | apply Kd.R_alloc | apply Kd.R_drewN | apply Kd.R_drew)); exact HO208.out) (Kd.R_base ho0) hb); have n1_ := Aside0.mk (Kd.R_elder' (by (with_reducible repeat (first | apply Kd.R_alloc | apply Kd.R_drewN | apply Kd.R_drew)); exact HO213.out) (Kd.R_base ho0) hb); have n2_ := Aside0.mk (Kd.R_lower (Kd.R_new' (Kd.R_new' ho0 (Kd.R_lt (by (with_reducible repeat (first | apply Kd.R_alloc | apply Kd.R_drewN | apply Kd.R_drew)); exact HO208.out))) (Kd.R_lt (by (with_reducible repeat (first | apply Kd.R_alloc | apply Kd.R_drewN | apply Kd.R_drew)); exact HO213.out))) (below_size blw_)); have n3_ := Aside0.mk (below_step blw_ hb); clear HO208; clear HO213; clear HB; have HO208 := n0_; have HO213 := n1_; have HO218 := n2_; have HB := n3_; clear n0_ n1_ n2_ n3_; (try clear hb); (try clear hb2); (try clear hk); (try clear hi); (try clear ho0))))
  (try simp only [Act.put, List.setIfInBounds_toArray, List.set_cons_zero, List.set_cons_succ])
  go_cut [52] (fun v52 wc => ∃ (kq : Nat) (x52_5 : Bool), v52 = .bool x52_5 ∧ Aside0 (laws_FnServeUser.j0 kq t205 t206 t209 t210 t211 t214 t215 t216 x52_5 = some r) ∧ Aside0 (kq ≤ k) ∧ Aside0 (Kd.R k30 30 wc w.heap.size (fun k_ => some k_ ≠ (v212 : Value).ownBlock ∧ some k_ ≠ (v217 : Value).ownBlock) (.slice Ao8 t205.length co8) t205) ∧ Aside0 (Kd.R k30 30 wc w.heap.size (fun k_ => some k_ ≠ ((.slice Ao8 t205.length co8) : Value).ownBlock ∧ some k_ ≠ (v217 : Value).ownBlock) v212 t209) ∧ Aside0 (Kd.R k30 30 wc w.heap.size (fun k_ => some k_ ≠ ((.slice Ao8 t205.length co8) : Value).ownBlock ∧ some k_ ≠ (v212 : Value).ownBlock) v217 t214) ∧ Aside0 (Below w.heap.size w wc))
  case first =>
   have H := HC6.out
   clear HC6
   replace H := Option.bind_eq_some_iff.mp H
   obtain ⟨t219, A110, H⟩ := H
   replace H : (if t219 = true then (if t210 = t215 then (if (t211 != t216) = true then (laws_FnServeUser.j0 k t205 t206 t209 t210 t211 t214 t215 t216 true) else (laws_FnServeUser.j0 k t205 t206 t209 t210 t211 t214 t215 t216 (!t211))) else (laws_FnServeUser.j0 k t205 t206 t209 t210 t211 t214 t215 t216 true)) else (laws_FnServeUser.j0 k t205 t206 t209 t210 t211 t214 t215 t216 true)) = some r := H
   have A11 := Aside0.mk A110
   clear A110
   by_cases c12 : t219 = true
   ·subst c12
    have H1 : (if t210 = t215 then (if (t211 != t216) = true then (laws_FnServeUser.j0 k t205 t206 t209 t210 t211 t214 t215 t216 true) else (laws_FnServeUser.j0 k t205 t206 t209 t210 t211 t214 t215 t216 (!t211))) else (laws_FnServeUser.j0 k t205 t206 t209 t210 t211 t214 t215 t216 true)) = some r := by rw [if_pos rfl] at H; exact H
    clear H
    have H := H1
    clear H1
    by_cases c13 : t210 = t215
    ·rw [if_pos c13] at H
     have c13b0 : (t210 == t215) = true := beq_iff_eq.mpr c13
     have c13b1 : (t210 != t215) = false := bne_eq_false_iff_eq.mpr c13
     clear c13
     (first | rw [c13b0] | (simp only [i64_w, i32_w]; rw [c13b0]) | skip)
     by_cases c14 : (t211 != t216) = true
     ·rw [if_pos c14] at H
      have c14b0 : (t211 != t216) = true := c14
      (try (have c14b1 : decide (t211 = t216) = false := by simpa using c14))
      (try (have c14b2 : (t211 == t216) = false := by simpa using c14))
      (try (have c14b3 : ¬ (t211 = t216) := by simpa using c14))
      clear c14
      have H' := Aside0.mk H
      clear H
      obtain ⟨Ao15, co15, eo15⟩ := Kd.R_slice HO213.out
      subst eo15
      obtain ⟨Ao16, co16, eo16⟩ := Kd.R_slice HO218.out
      subst eo16
      go_wp2_with (first | (go_at_call 8; (with_reducible refine (laws_equalUsers.calls k _ _ t209 _ _ t214 true _ ?side1 ?side2 ?side3 ?side4 A11.out).mono ?_); (case side1 => exact cw_ (Kd.R_reads' HO213.out).2.2); (case side2 => exact (Kd.R_reads' HO213.out).2.1); (case side3 => exact cw_ (Kd.R_reads' HO218.out).2.2); (case side4 => exact (Kd.R_reads' HO218.out).2.1); rintro e w' ⟨rfl, ⟨nd, rfl⟩⟩; (try first | exact ⟨rfl, _, World.drewN_drewN _ _ _⟩ | exact ⟨rfl, _, Eq.trans (World.drewN_drewN _ _ _) (congrArg (World.drewN _) (Nat.add_assoc _ _ _))⟩)))
      repeat (go_quiet (first | (go_at_call 8; (with_reducible refine (laws_equalUsers.calls k _ _ t209 _ _ t214 true _ ?side1 ?side2 ?side3 ?side4 A11.out).mono ?_); (case side1 => exact cw_ (Kd.R_reads' HO213.out).2.2); (case side2 => exact (Kd.R_reads' HO213.out).2.1); (case side3 => exact cw_ (Kd.R_reads' HO218.out).2.2); (case side4 => exact (Kd.R_reads' HO218.out).2.1); rintro e w' ⟨rfl, ⟨nd, rfl⟩⟩; (try first | exact ⟨rfl, _, World.drewN_drewN _ _ _⟩ | exact ⟨rfl, _, Eq.trans (World.drewN_drewN _ _ _) (congrArg (World.drewN _) (Nat.add_assoc _ _ _))⟩))); try go_wp2_with (first | (go_at_call 8; (with_reducible refine (laws_equalUsers.calls k _ _ t209 _ _ t214 true _ ?side1 ?side2 ?side3 ?side4 A11.out).mono ?_); (case side1 => exact cw_ (Kd.R_reads' HO213.out).2.2); (case side2 => exact (Kd.R_reads' HO213.out).2.1); (case side3 => exact cw_ (Kd.R_reads' HO218.out).2.2); (case side4 => exact (Kd.R_reads' HO218.out).2.1); rintro e w' ⟨rfl, ⟨nd, rfl⟩⟩; (try first | exact ⟨rfl, _, World.drewN_drewN _ _ _⟩ | exact ⟨rfl, _, Eq.trans (World.drewN_drewN _ _ _) (congrArg (World.drewN _) (Nat.add_assoc _ _ _))⟩))))
      go_meet
      case rel => exact ⟨_, (true), (by first | rfl | (simp; done) | (simp [*]; done)), H', ⟨by first | omega | exact Nat.le_refl _⟩, ⟨by (with_reducible repeat (first | apply Kd.R_alloc | apply Kd.R_drewN | apply Kd.R_drew)); exact Kd.R_mono HO208.out (fun _ hk => ⟨hk.1.2, hk.2⟩)⟩, ⟨by (with_reducible repeat (first | apply Kd.R_alloc | apply Kd.R_drewN | apply Kd.R_drew)); exact Kd.R_mono HO213.out (fun _ hk => ⟨hk.1.2, hk.2⟩)⟩, ⟨by (with_reducible repeat (first | apply Kd.R_alloc | apply Kd.R_drewN | apply Kd.R_drew)); exact Kd.R_mono HO218.out (fun _ hk => ⟨hk.1.2, hk.2⟩)⟩, ⟨blw_⟩⟩
     ·rw [if_neg c14] at H
      have c14b0 : (t211 != t216) = false := by simpa using c14
      (try (have c14b1 : decide (t211 = t216) = true := by simpa using c14))
      (try (have c14b2 : (t211 == t216) = true := by simpa using c14))
      clear c14
      have H' := Aside0.mk H
      clear H
      obtain ⟨Ao17, co17, eo17⟩ := Kd.R_slice HO213.out
      subst eo17
      obtain ⟨Ao18, co18, eo18⟩ := Kd.R_slice HO218.out
      subst eo18
      go_wp2_with (first | (go_at_call 8; (with_reducible refine (laws_equalUsers.calls k _ _ t209 _ _ t214 true _ ?side1 ?side2 ?side3 ?side4 A11.out).mono ?_); (case side1 => exact cw_ (Kd.R_reads' HO213.out).2.2); (case side2 => exact (Kd.R_reads' HO213.out).2.1); (case side3 => exact cw_ (Kd.R_reads' HO218.out).2.2); (case side4 => exact (Kd.R_reads' HO218.out).2.1); rintro e w' ⟨rfl, ⟨nd, rfl⟩⟩; (try first | exact ⟨rfl, _, World.drewN_drewN _ _ _⟩ | exact ⟨rfl, _, Eq.trans (World.drewN_drewN _ _ _) (congrArg (World.drewN _) (Nat.add_assoc _ _ _))⟩)))
      repeat (go_quiet (first | (go_at_call 8; (with_reducible refine (laws_equalUsers.calls k _ _ t209 _ _ t214 true _ ?side1 ?side2 ?side3 ?side4 A11.out).mono ?_); (case side1 => exact cw_ (Kd.R_reads' HO213.out).2.2); (case side2 => exact (Kd.R_reads' HO213.out).2.1); (case side3 => exact cw_ (Kd.R_reads' HO218.out).2.2); (case side4 => exact (Kd.R_reads' HO218.out).2.1); rintro e w' ⟨rfl, ⟨nd, rfl⟩⟩; (try first | exact ⟨rfl, _, World.drewN_drewN _ _ _⟩ | exact ⟨rfl, _, Eq.trans (World.drewN_drewN _ _ _) (congrArg (World.drewN _) (Nat.add_assoc _ _ _))⟩))); try go_wp2_with (first | (go_at_call 8; (with_reducible refine (laws_equalUsers.calls k _ _ t209 _ _ t214 true _ ?side1 ?side2 ?side3 ?side4 A11.out).mono ?_); (case side1 => exact cw_ (Kd.R_reads' HO213.out).2.2); (case side2 => exact (Kd.R_reads' HO213.out).2.1); (case side3 => exact cw_ (Kd.R_reads' HO218.out).2.2); (case side4 => exact (Kd.R_reads' HO218.out).2.1); rintro e w' ⟨rfl, ⟨nd, rfl⟩⟩; (try first | exact ⟨rfl, _, World.drewN_drewN _ _ _⟩ | exact ⟨rfl, _, Eq.trans (World.drewN_drewN _ _ _) (congrArg (World.drewN _) (Nat.add_assoc _ _ _))⟩))))
      go_meet
      case rel => exact ⟨_, (!t211), (by first | rfl | (simp; done) | (simp [*]; done)), H', ⟨by first | omega | exact Nat.le_refl _⟩, ⟨by (with_reducible repeat (first | apply Kd.R_alloc | apply Kd.R_drewN | apply Kd.R_drew)); exact Kd.R_mono HO208.out (fun _ hk => ⟨hk.1.2, hk.2⟩)⟩, ⟨by (with_reducible repeat (first | apply Kd.R_alloc | apply Kd.R_drewN | apply Kd.R_drew)); exact Kd.R_mono HO213.out (fun _ hk => ⟨hk.1.2, hk.2⟩)⟩, ⟨by (with_reducible repeat (first | apply Kd.R_alloc | apply Kd.R_drewN | apply Kd.R_drew)); exact Kd.R_mono HO218.out (fun _ hk => ⟨hk.1.2, hk.2⟩)⟩, ⟨blw_⟩⟩
    ·rw [if_neg c13] at H
     have c13b0 : (t210 == t215) = false := beq_eq_false_iff_ne.mpr c13
     have c13b1 : (t210 != t215) = true := bne_iff_ne.mpr c13
     (first | rw [c13b0] | (simp only [i64_w, i32_w]; rw [c13b0]) | skip)
     have H' := Aside0.mk H
     clear H
     obtain ⟨Ao19, co19, eo19⟩ := Kd.R_slice HO213.out
     subst eo19
     obtain ⟨Ao20, co20, eo20⟩ := Kd.R_slice HO218.out
     subst eo20
     go_wp2_with (first | (go_at_call 8; (with_reducible refine (laws_equalUsers.calls k _ _ t209 _ _ t214 true _ ?side1 ?side2 ?side3 ?side4 A11.out).mono ?_); (case side1 => exact cw_ (Kd.R_reads' HO213.out).2.2); (case side2 => exact (Kd.R_reads' HO213.out).2.1); (case side3 => exact cw_ (Kd.R_reads' HO218.out).2.2); (case side4 => exact (Kd.R_reads' HO218.out).2.1); rintro e w' ⟨rfl, ⟨nd, rfl⟩⟩; (try first | exact ⟨rfl, _, World.drewN_drewN _ _ _⟩ | exact ⟨rfl, _, Eq.trans (World.drewN_drewN _ _ _) (congrArg (World.drewN _) (Nat.add_assoc _ _ _))⟩)))
     repeat (go_quiet (first | (go_at_call 8; (with_reducible refine (laws_equalUsers.calls k _ _ t209 _ _ t214 true _ ?side1 ?side2 ?side3 ?side4 A11.out).mono ?_); (case side1 => exact cw_ (Kd.R_reads' HO213.out).2.2); (case side2 => exact (Kd.R_reads' HO213.out).2.1); (case side3 => exact cw_ (Kd.R_reads' HO218.out).2.2); (case side4 => exact (Kd.R_reads' HO218.out).2.1); rintro e w' ⟨rfl, ⟨nd, rfl⟩⟩; (try first | exact ⟨rfl, _, World.drewN_drewN _ _ _⟩ | exact ⟨rfl, _, Eq.trans (World.drewN_drewN _ _ _) (congrArg (World.drewN _) (Nat.add_assoc _ _ _))⟩))); try go_wp2_with (first | (go_at_call 8; (with_reducible refine (laws_equalUsers.calls k _ _ t209 _ _ t214 true _ ?side1 ?side2 ?side3 ?side4 A11.out).mono ?_); (case side1 => exact cw_ (Kd.R_reads' HO213.out).2.2); (case side2 => exact (Kd.R_reads' HO213.out).2.1); (case side3 => exact cw_ (Kd.R_reads' HO218.out).2.2); (case side4 => exact (Kd.R_reads' HO218.out).2.1); rintro e w' ⟨rfl, ⟨nd, rfl⟩⟩; (try first | exact ⟨rfl, _, World.drewN_drewN _ _ _⟩ | exact ⟨rfl, _, Eq.trans (World.drewN_drewN _ _ _) (congrArg (World.drewN _) (Nat.add_assoc _ _ _))⟩))))
     go_meet
     case rel => exact ⟨_, (true), (by first | rfl | (simp; done) | (simp [*]; done)), H', ⟨by first | omega | exact Nat.le_refl _⟩, ⟨by (with_reducible repeat (first | apply Kd.R_alloc | apply Kd.R_drewN | apply Kd.R_drew)); exact Kd.R_mono HO208.out (fun _ hk => ⟨hk.1.2, hk.2⟩)⟩, ⟨by (with_reducible repeat (first | apply Kd.R_alloc | apply Kd.R_drewN | apply Kd.R_drew)); exact Kd.R_mono HO213.out (fun _ hk => ⟨hk.1.2, hk.2⟩)⟩, ⟨by (with_reducible repeat (first | apply Kd.R_alloc | apply Kd.R_drewN | apply Kd.R_drew)); exact Kd.R_mono HO218.out (fun _ hk => ⟨hk.1.2, hk.2⟩)⟩, ⟨blw_⟩⟩
   ·replace c12 := Bool.eq_false_iff.mpr c12
    subst c12
    have H1 : (laws_FnServeUser.j0 k t205 t206 t209 t210 t211 t214 t215 t216 true) = some r := by rw [if_neg (show ¬ (false = true) by decide)] at H; exact H
    clear H
    have H := H1
    clear H1
    have H' := Aside0.mk H
    clear H
    obtain ⟨Ao21, co21, eo21⟩ := Kd.R_slice HO213.out
    subst eo21
    obtain ⟨Ao22, co22, eo22⟩ := Kd.R_slice HO218.out
    subst eo22
    go_wp2_with (first | (go_at_call 8; (with_reducible refine (laws_equalUsers.calls k _ _ t209 _ _ t214 false _ ?side1 ?side2 ?side3 ?side4 A11.out).mono ?_); (case side1 => exact cw_ (Kd.R_reads' HO213.out).2.2); (case side2 => exact (Kd.R_reads' HO213.out).2.1); (case side3 => exact cw_ (Kd.R_reads' HO218.out).2.2); (case side4 => exact (Kd.R_reads' HO218.out).2.1); rintro e w' ⟨rfl, ⟨nd, rfl⟩⟩; (try first | exact ⟨rfl, _, World.drewN_drewN _ _ _⟩ | exact ⟨rfl, _, Eq.trans (World.drewN_drewN _ _ _) (congrArg (World.drewN _) (Nat.add_assoc _ _ _))⟩)))
    repeat (go_quiet (first | (go_at_call 8; (with_reducible refine (laws_equalUsers.calls k _ _ t209 _ _ t214 false _ ?side1 ?side2 ?side3 ?side4 A11.out).mono ?_); (case side1 => exact cw_ (Kd.R_reads' HO213.out).2.2); (case side2 => exact (Kd.R_reads' HO213.out).2.1); (case side3 => exact cw_ (Kd.R_reads' HO218.out).2.2); (case side4 => exact (Kd.R_reads' HO218.out).2.1); rintro e w' ⟨rfl, ⟨nd, rfl⟩⟩; (try first | exact ⟨rfl, _, World.drewN_drewN _ _ _⟩ | exact ⟨rfl, _, Eq.trans (World.drewN_drewN _ _ _) (congrArg (World.drewN _) (Nat.add_assoc _ _ _))⟩))); try go_wp2_with (first | (go_at_call 8; (with_reducible refine (laws_equalUsers.calls k _ _ t209 _ _ t214 false _ ?side1 ?side2 ?side3 ?side4 A11.out).mono ?_); (case side1 => exact cw_ (Kd.R_reads' HO213.out).2.2); (case side2 => exact (Kd.R_reads' HO213.out).2.1); (case side3 => exact cw_ (Kd.R_reads' HO218.out).2.2); (case side4 => exact (Kd.R_reads' HO218.out).2.1); rintro e w' ⟨rfl, ⟨nd, rfl⟩⟩; (try first | exact ⟨rfl, _, World.drewN_drewN _ _ _⟩ | exact ⟨rfl, _, Eq.trans (World.drewN_drewN _ _ _) (congrArg (World.drewN _) (Nat.add_assoc _ _ _))⟩))))
    go_meet
    case rel => exact ⟨_, (true), (by first | rfl | (simp; done) | (simp [*]; done)), H', ⟨by first | omega | exact Nat.le_refl _⟩, ⟨by (with_reducible repeat (first | apply Kd.R_alloc | apply Kd.R_drewN | apply Kd.R_drew)); exact Kd.R_mono HO208.out (fun _ hk => ⟨hk.1.2, hk.2⟩)⟩, ⟨by (with_reducible repeat (first | apply Kd.R_alloc | apply Kd.R_drewN | apply Kd.R_drew)); exact Kd.R_mono HO213.out (fun _ hk => ⟨hk.1.2, hk.2⟩)⟩, ⟨by (with_reducible repeat (first | apply Kd.R_alloc | apply Kd.R_drewN | apply Kd.R_drew)); exact Kd.R_mono HO218.out (fun _ hk => ⟨hk.1.2, hk.2⟩)⟩, ⟨blw_⟩⟩
  case rest =>
   clear HC6
   try clear c1
   try clear c2
   try clear c2b0
   try clear c2b1
   try clear p2
   try clear c3
   try clear c12
   try clear c13
   try clear c13b0
   try clear c13b1
   try clear c14
   try clear c14b0
   try clear c14b1
   try clear c14b2
   obtain ⟨kq, x52_5, rfl, HA, HJ5, HO_3, HO_5, HO_8, HB⟩ := hcut
   cases kq with
   | zero => exact absurd HA.out (by simp [laws_FnServeUser.j0])
   | succ kj5 =>
    have H := HA.out
    clear HA
    simp only [laws_FnServeUser.j0] at H
    by_cases c23 : x52_5 = true
    ·subst c23
     have H1 : ((laws_equalUsers.f kj5 t209 t214).bind fun t220 => (if t220 = true then (if t210 = t215 then (some (t211 == t216)) else (some false)) else (some false))) = some r := by rw [if_pos rfl] at H; exact H
     clear H
     have H := H1
     clear H1
     replace H := Option.bind_eq_some_iff.mp H
     obtain ⟨t220, A240, H⟩ := H
     replace H : (if t220 = true then (if t210 = t215 then (some (t211 == t216)) else (some false)) else (some false)) = some r := H
     have A24 := Aside0.mk A240
     clear A240
     by_cases c25 : t220 = true
     ·subst c25
      have H1 : (if t210 = t215 then (some (t211 == t216)) else (some false)) = some r := by rw [if_pos rfl] at H; exact H
      clear H
      have H := H1
      clear H1
      by_cases c26 : t210 = t215
      ·rw [if_pos c26] at H
       have c26b0 : (t210 == t215) = true := beq_iff_eq.mpr c26
       have c26b1 : (t210 != t215) = false := bne_eq_false_iff_eq.mpr c26
       clear c26
       obtain rfl := Option.some.inj H
       obtain ⟨Ao27, co27, eo27⟩ := Kd.R_slice HO_5.out
       subst eo27
       obtain ⟨Ao28, co28, eo28⟩ := Kd.R_slice HO_8.out
       subst eo28
       go_wp2_with (first | (go_at_call 8; (with_reducible refine (laws_equalUsers.calls kj5 _ _ t209 _ _ t214 true _ ?side1 ?side2 ?side3 ?side4 A24.out).mono ?_); (case side1 => exact cw_ (Kd.R_reads' HO_5.out).2.2); (case side2 => exact (Kd.R_reads' HO_5.out).2.1); (case side3 => exact cw_ (Kd.R_reads' HO_8.out).2.2); (case side4 => exact (Kd.R_reads' HO_8.out).2.1); rintro e w' ⟨rfl, ⟨nd, rfl⟩⟩; (try first | exact ⟨rfl, _, World.drewN_drewN _ _ _⟩ | exact ⟨rfl, _, Eq.trans (World.drewN_drewN _ _ _) (congrArg (World.drewN _) (Nat.add_assoc _ _ _))⟩)))
       repeat (go_quiet (first | (go_at_call 8; (with_reducible refine (laws_equalUsers.calls kj5 _ _ t209 _ _ t214 true _ ?side1 ?side2 ?side3 ?side4 A24.out).mono ?_); (case side1 => exact cw_ (Kd.R_reads' HO_5.out).2.2); (case side2 => exact (Kd.R_reads' HO_5.out).2.1); (case side3 => exact cw_ (Kd.R_reads' HO_8.out).2.2); (case side4 => exact (Kd.R_reads' HO_8.out).2.1); rintro e w' ⟨rfl, ⟨nd, rfl⟩⟩; (try first | exact ⟨rfl, _, World.drewN_drewN _ _ _⟩ | exact ⟨rfl, _, Eq.trans (World.drewN_drewN _ _ _) (congrArg (World.drewN _) (Nat.add_assoc _ _ _))⟩))); try go_wp2_with (first | (go_at_call 8; (with_reducible refine (laws_equalUsers.calls kj5 _ _ t209 _ _ t214 true _ ?side1 ?side2 ?side3 ?side4 A24.out).mono ?_); (case side1 => exact cw_ (Kd.R_reads' HO_5.out).2.2); (case side2 => exact (Kd.R_reads' HO_5.out).2.1); (case side3 => exact cw_ (Kd.R_reads' HO_8.out).2.2); (case side4 => exact (Kd.R_reads' HO_8.out).2.1); rintro e w' ⟨rfl, ⟨nd, rfl⟩⟩; (try first | exact ⟨rfl, _, World.drewN_drewN _ _ _⟩ | exact ⟨rfl, _, Eq.trans (World.drewN_drewN _ _ _) (congrArg (World.drewN _) (Nat.add_assoc _ _ _))⟩))))
       go_ret
       exact ⟨by first | rfl | (simp [errW_none, errW_some] <;> rfl) | (simp [*, errW_none, errW_some] <;> rfl), blw_⟩
      ·rw [if_neg c26] at H
       have c26b0 : (t210 == t215) = false := beq_eq_false_iff_ne.mpr c26
       have c26b1 : (t210 != t215) = true := bne_iff_ne.mpr c26
       obtain rfl := Option.some.inj H
       obtain ⟨Ao29, co29, eo29⟩ := Kd.R_slice HO_5.out
       subst eo29
       obtain ⟨Ao30, co30, eo30⟩ := Kd.R_slice HO_8.out
       subst eo30
       go_wp2_with (first | (go_at_call 8; (with_reducible refine (laws_equalUsers.calls kj5 _ _ t209 _ _ t214 true _ ?side1 ?side2 ?side3 ?side4 A24.out).mono ?_); (case side1 => exact cw_ (Kd.R_reads' HO_5.out).2.2); (case side2 => exact (Kd.R_reads' HO_5.out).2.1); (case side3 => exact cw_ (Kd.R_reads' HO_8.out).2.2); (case side4 => exact (Kd.R_reads' HO_8.out).2.1); rintro e w' ⟨rfl, ⟨nd, rfl⟩⟩; (try first | exact ⟨rfl, _, World.drewN_drewN _ _ _⟩ | exact ⟨rfl, _, Eq.trans (World.drewN_drewN _ _ _) (congrArg (World.drewN _) (Nat.add_assoc _ _ _))⟩)))
       repeat (go_quiet (first | (go_at_call 8; (with_reducible refine (laws_equalUsers.calls kj5 _ _ t209 _ _ t214 true _ ?side1 ?side2 ?side3 ?side4 A24.out).mono ?_); (case side1 => exact cw_ (Kd.R_reads' HO_5.out).2.2); (case side2 => exact (Kd.R_reads' HO_5.out).2.1); (case side3 => exact cw_ (Kd.R_reads' HO_8.out).2.2); (case side4 => exact (Kd.R_reads' HO_8.out).2.1); rintro e w' ⟨rfl, ⟨nd, rfl⟩⟩; (try first | exact ⟨rfl, _, World.drewN_drewN _ _ _⟩ | exact ⟨rfl, _, Eq.trans (World.drewN_drewN _ _ _) (congrArg (World.drewN _) (Nat.add_assoc _ _ _))⟩))); try go_wp2_with (first | (go_at_call 8; (with_reducible refine (laws_equalUsers.calls kj5 _ _ t209 _ _ t214 true _ ?side1 ?side2 ?side3 ?side4 A24.out).mono ?_); (case side1 => exact cw_ (Kd.R_reads' HO_5.out).2.2); (case side2 => exact (Kd.R_reads' HO_5.out).2.1); (case side3 => exact cw_ (Kd.R_reads' HO_8.out).2.2); (case side4 => exact (Kd.R_reads' HO_8.out).2.1); rintro e w' ⟨rfl, ⟨nd, rfl⟩⟩; (try first | exact ⟨rfl, _, World.drewN_drewN _ _ _⟩ | exact ⟨rfl, _, Eq.trans (World.drewN_drewN _ _ _) (congrArg (World.drewN _) (Nat.add_assoc _ _ _))⟩))))
       go_ret
       exact ⟨by first | rfl | (simp [errW_none, errW_some] <;> rfl) | (simp [*, errW_none, errW_some] <;> rfl), blw_⟩
     ·replace c25 := Bool.eq_false_iff.mpr c25
      subst c25
      have H1 : (some false) = some r := by rw [if_neg (show ¬ (false = true) by decide)] at H; exact H
      clear H
      have H := H1
      clear H1
      obtain rfl := Option.some.inj H
      obtain ⟨Ao31, co31, eo31⟩ := Kd.R_slice HO_5.out
      subst eo31
      obtain ⟨Ao32, co32, eo32⟩ := Kd.R_slice HO_8.out
      subst eo32
      go_wp2_with (first | (go_at_call 8; (with_reducible refine (laws_equalUsers.calls kj5 _ _ t209 _ _ t214 false _ ?side1 ?side2 ?side3 ?side4 A24.out).mono ?_); (case side1 => exact cw_ (Kd.R_reads' HO_5.out).2.2); (case side2 => exact (Kd.R_reads' HO_5.out).2.1); (case side3 => exact cw_ (Kd.R_reads' HO_8.out).2.2); (case side4 => exact (Kd.R_reads' HO_8.out).2.1); rintro e w' ⟨rfl, ⟨nd, rfl⟩⟩; (try first | exact ⟨rfl, _, World.drewN_drewN _ _ _⟩ | exact ⟨rfl, _, Eq.trans (World.drewN_drewN _ _ _) (congrArg (World.drewN _) (Nat.add_assoc _ _ _))⟩)))
      repeat (go_quiet (first | (go_at_call 8; (with_reducible refine (laws_equalUsers.calls kj5 _ _ t209 _ _ t214 false _ ?side1 ?side2 ?side3 ?side4 A24.out).mono ?_); (case side1 => exact cw_ (Kd.R_reads' HO_5.out).2.2); (case side2 => exact (Kd.R_reads' HO_5.out).2.1); (case side3 => exact cw_ (Kd.R_reads' HO_8.out).2.2); (case side4 => exact (Kd.R_reads' HO_8.out).2.1); rintro e w' ⟨rfl, ⟨nd, rfl⟩⟩; (try first | exact ⟨rfl, _, World.drewN_drewN _ _ _⟩ | exact ⟨rfl, _, Eq.trans (World.drewN_drewN _ _ _) (congrArg (World.drewN _) (Nat.add_assoc _ _ _))⟩))); try go_wp2_with (first | (go_at_call 8; (with_reducible refine (laws_equalUsers.calls kj5 _ _ t209 _ _ t214 false _ ?side1 ?side2 ?side3 ?side4 A24.out).mono ?_); (case side1 => exact cw_ (Kd.R_reads' HO_5.out).2.2); (case side2 => exact (Kd.R_reads' HO_5.out).2.1); (case side3 => exact cw_ (Kd.R_reads' HO_8.out).2.2); (case side4 => exact (Kd.R_reads' HO_8.out).2.1); rintro e w' ⟨rfl, ⟨nd, rfl⟩⟩; (try first | exact ⟨rfl, _, World.drewN_drewN _ _ _⟩ | exact ⟨rfl, _, Eq.trans (World.drewN_drewN _ _ _) (congrArg (World.drewN _) (Nat.add_assoc _ _ _))⟩))))
      go_ret
      exact ⟨by first | rfl | (simp [errW_none, errW_some] <;> rfl) | (simp [*, errW_none, errW_some] <;> rfl), blw_⟩
    ·replace c23 := Bool.eq_false_iff.mpr c23
     subst c23
     have H1 : (laws_FnServeUser.l0 kj5 t205 t206 t209 t210 0) = some r := by rw [if_neg (show ¬ (false = true) by decide)] at H; exact H
     clear H
     have H := H1
     clear H1
     have H' := Aside0.mk H
     clear H
     go_wp2
     repeat (go_quiet (fail); try go_wp2)
     go_loopg [11] kj5 (fun kq v11 w' => ∃ (x11_2 : Int), v11 = .int .i64 x11_2 ∧ Aside0 (laws_FnServeUser.l0 kq t205 t206 t209 t210 x11_2 = some r) ∧ Aside0 (kq ≤ kj5) ∧ Aside0 (Kd.R k30 30 w' w.heap.size (fun k_ => some k_ ≠ (v212 : Value).ownBlock) (.slice Ao8 t205.length co8) t205) ∧ Aside0 (Kd.R k30 30 w' w.heap.size (fun k_ => some k_ ≠ ((.slice Ao8 t205.length co8) : Value).ownBlock) v212 t209) ∧ Aside0 (Below w.heap.size w w'))
     case atStart => exact ⟨(0), (by first | rfl | (simp; done) | (simp [*]; done)), H', ⟨Nat.le_refl _⟩, ⟨by (with_reducible repeat (first | apply Kd.R_alloc | apply Kd.R_drewN | apply Kd.R_drew)); exact Kd.R_mono HO_3.out (fun _ hk => hk.1)⟩, ⟨by (with_reducible repeat (first | apply Kd.R_alloc | apply Kd.R_drewN | apply Kd.R_drew)); exact Kd.R_mono HO_5.out (fun _ hk => hk.1)⟩, ⟨blw_⟩⟩
     case round =>
      clear H'
      try clear c1
      try clear c2
      try clear c2b0
      try clear c2b1
      try clear p2
      try clear c3
      try clear c12
      try clear c13
      try clear c13b0
      try clear c13b1
      try clear c14
      try clear c14b0
      try clear c14b1
      try clear c14b2
      try clear c23
      try clear c25
      try clear c26
      try clear c26b0
      try clear c26b1
      try clear p2
      obtain ⟨x11_2, rfl, HA, HK2, HO_3, HO_5, HB⟩ := hrel
      cases gk with
      | zero => exact absurd HA.out (by simp [laws_FnServeUser.l0])
      | succ k2 =>
       have H := HA.out
       clear HA
       simp only [laws_FnServeUser.l0] at H
       by_cases c33 : x11_2 < (t205.length : Int)
       ·rw [if_pos c33] at H
        have c33b0 : decide (x11_2 < (t205.length : Int)) = true := decide_eq_true c33
        clear c33
        by_cases c34 : 0 ≤ x11_2
        ·rw [if_pos c34] at H
         have c34b0 : decide (0 ≤ x11_2) = true := decide_eq_true c34
         clear c34
         have p223 : 0 ≤ (x11_2 : Int) := of_decide_eq_true c34b0
         have q223 : x11_2 < (t205.length : Int) := of_decide_eq_true c33b0
         obtain ⟨ad223, e223, hx0, hx1, hx2⟩ := at_T30 (Kd.R_reads' HO_3.out).2.2 x11_2 p223 q223
         cases e223
         obtain ⟨v, hv⟩ : ∃ v, rd_T30 t205 x11_2 = v := ⟨_, rfl⟩
         rw [hv] at H hx0 hx1 hx2
         clear hv
         by_cases c35 : x11_2 = t210
         · rw [if_pos c35] at H
           have c35b0 : (x11_2 == t210) = true := beq_iff_eq.mpr c35
           clear c35
           obtain ⟨j1, hj1⟩ : ∃ j_ : Int, mn (wrap64 (v.f1 + t206)) 10000 = j_ := ⟨_, rfl⟩
           obtain ⟨j2, hj2⟩ : ∃ j_ : Int, wrap64 (v.f2 - 1) = j_ := ⟨_, rfl⟩
           rw [hj1, hj2] at H
           have hj1_ : (if 10000 < wrap64 (v.f1 + t206) then 10000 else wrap64 (v.f1 + t206)) = j1 := hj1
           clear hj1
           go_wp2_with fail
           have gA := blk_new wr (.cells #[.int .i64 v.f0, .int .i64 j1, .int .i64 j2] 30 (0, 0))
           have g3 := Kd.R_alloc HO_3.out (.cells #[.int .i64 v.f0, .int .i64 j1, .int .i64 j2] 30 (0, 0))
           have g5 := Kd.R_alloc HO_5.out (.cells #[.int .i64 v.f0, .int .i64 j1, .int .i64 j2] 30 (0, 0))
           have gb := below_alloc HB.out (.cells #[.int .i64 v.f0, .int .i64 j1, .int .i64 j2] 30 (0, 0))
           obtain ⟨E, hE⟩ : ∃ E, wr.heap.size = E := ⟨_, rfl⟩
           rw [hE] at gA
           try rw [hE]
           generalize wr.alloc (.cells #[.int .i64 v.f0, .int .i64 j1, .int .i64 j2] 30 (0, 0)) = W2 at gA g3 g5 gb ⊢
           clear HO_3 HO_5 HB hx0 hx1 hx2 hE
           have HO_3 := Aside0.mk g3
           have HO_5 := Aside0.mk g5
           have HB := Aside0.mk gb
           have ce0 : W2.cell? ⟨E, 0, none⟩ = some (.int .i64 v.f0) := (blk_cell gA 0).trans rfl
           have ce1 : W2.cell? ⟨E, 1, none⟩ = some (.int .i64 j1) := (blk_cell gA 1).trans rfl
           have ce2 : W2.cell? ⟨E, 2, none⟩ = some (.int .i64 j2) := (blk_cell gA 2).trans rfl
           clear g3 g5 gb gA
           by_cases c37 : x11_2 ≥ (t209.length : Int)
           · rw [if_pos c37] at H
             have c37b0 : decide ((t209.length : Int) ≤ x11_2) = true := decide_eq_true c37
             clear c37
             obtain rfl := Option.some.inj H
             obtain ⟨A9, c9, e9⟩ := Kd.R_slice HO_5.out
             subst e9
             go_quiet (fail)
             go_wp2
             go_ret
             exact ⟨rfl, pw_below_drewN HB.out _⟩
           · have q9 : x11_2 < (t209.length : Int) := by omega
             rw [if_neg c37, if_pos q9] at H
             have c37b0 : decide ((t209.length : Int) ≤ x11_2) = false := decide_eq_false c37
             clear c37
             obtain ⟨A9, c9, e9⟩ := Kd.R_slice HO_5.out
             subst e9
             obtain ⟨ad9, e9, hy0, hy1, hy2⟩ := at_T30 (Kd.R_reads' HO_5.out).2.2 x11_2 p223 q9
             cases e9
             obtain ⟨u, hu⟩ : ∃ u, rd_T30 t209 x11_2 = u := ⟨_, rfl⟩
             rw [hu] at H hy0 hy1 hy2
             clear hu
             by_cases c42 : (!(u.f0 == v.f0) || (!(u.f1 == j1) || (!(u.f2 == j2)))) = true
             · rw [if_pos c42] at H
               obtain rfl := Option.some.inj H
               go_quiet (fail)
               go_wp2
               go_ret
               exact ⟨rfl, pw_below_drewN HB.out _⟩
             · rw [if_neg c42] at H
               have c42b0 : (!(u.f0 == v.f0) || (!(u.f1 == j1) || (!(u.f2 == j2)))) = false := by simpa using c42
               clear c42
               have H' := Aside0.mk H
               clear H
               go_quiet (fail)
               go_wp2
               go_roundg k2
               case measure => have := HJ5.out; have := HK2.out; omega
               case rel => exact ⟨(wrap64 (x11_2 + 1)), (by first | rfl | (simp; done) | (simp [*]; done)), H', ⟨by have := HJ5.out; have := HK2.out; omega⟩, ⟨Kd.R_drewN HO_3.out _⟩, ⟨Kd.R_drewN HO_5.out _⟩, ⟨pw_below_drewN HB.out _⟩⟩
         · rw [if_neg c35] at H
           have c35b0 : (x11_2 == t210) = false := beq_eq_false_iff_ne.mpr c35
           clear c35
           go_wp2_with fail
           have gA := blk_new wr (.cells #[.int .i64 v.f0, .int .i64 v.f1, .int .i64 v.f2] 30 (0, 0))
           have g3 := Kd.R_alloc HO_3.out (.cells #[.int .i64 v.f0, .int .i64 v.f1, .int .i64 v.f2] 30 (0, 0))
           have g5 := Kd.R_alloc HO_5.out (.cells #[.int .i64 v.f0, .int .i64 v.f1, .int .i64 v.f2] 30 (0, 0))
           have gb := below_alloc HB.out (.cells #[.int .i64 v.f0, .int .i64 v.f1, .int .i64 v.f2] 30 (0, 0))
           obtain ⟨E, hE⟩ : ∃ E, wr.heap.size = E := ⟨_, rfl⟩
           rw [hE] at gA
           try rw [hE]
           generalize wr.alloc (.cells #[.int .i64 v.f0, .int .i64 v.f1, .int .i64 v.f2] 30 (0, 0)) = W2 at gA g3 g5 gb ⊢
           clear HO_3 HO_5 HB hx0 hx1 hx2 hE
           have HO_3 := Aside0.mk g3
           have HO_5 := Aside0.mk g5
           have HB := Aside0.mk gb
           have ce0 : W2.cell? ⟨E, 0, none⟩ = some (.int .i64 v.f0) := (blk_cell gA 0).trans rfl
           have ce1 : W2.cell? ⟨E, 1, none⟩ = some (.int .i64 v.f1) := (blk_cell gA 1).trans rfl
           have ce2 : W2.cell? ⟨E, 2, none⟩ = some (.int .i64 v.f2) := (blk_cell gA 2).trans rfl
           clear g3 g5 gb gA
           by_cases c37 : x11_2 ≥ (t209.length : Int)
           · rw [if_pos c37] at H
             have c37b0 : decide ((t209.length : Int) ≤ x11_2) = true := decide_eq_true c37
             clear c37
             obtain rfl := Option.some.inj H
             obtain ⟨A9, c9, e9⟩ := Kd.R_slice HO_5.out
             subst e9
             go_quiet (fail)
             go_wp2
             go_ret
             exact ⟨rfl, pw_below_drewN HB.out _⟩
           · have q9 : x11_2 < (t209.length : Int) := by omega
             rw [if_neg c37, if_pos q9] at H
             have c37b0 : decide ((t209.length : Int) ≤ x11_2) = false := decide_eq_false c37
             clear c37
             obtain ⟨A9, c9, e9⟩ := Kd.R_slice HO_5.out
             subst e9
             obtain ⟨ad9, e9, hy0, hy1, hy2⟩ := at_T30 (Kd.R_reads' HO_5.out).2.2 x11_2 p223 q9
             cases e9
             obtain ⟨u, hu⟩ : ∃ u, rd_T30 t209 x11_2 = u := ⟨_, rfl⟩
             rw [hu] at H hy0 hy1 hy2
             clear hu
             by_cases c42 : (!(u.f0 == v.f0) || (!(u.f1 == v.f1) || (!(u.f2 == v.f2)))) = true
             · rw [if_pos c42] at H
               obtain rfl := Option.some.inj H
               go_quiet (fail)
               go_wp2
               go_ret
               exact ⟨rfl, pw_below_drewN HB.out _⟩
             · rw [if_neg c42] at H
               have c42b0 : (!(u.f0 == v.f0) || (!(u.f1 == v.f1) || (!(u.f2 == v.f2)))) = false := by simpa using c42
               clear c42
               have H' := Aside0.mk H
               clear H
               go_quiet (fail)
               go_wp2
               go_roundg k2
               case measure => have := HJ5.out; have := HK2.out; omega
               case rel => exact ⟨(wrap64 (x11_2 + 1)), (by first | rfl | (simp; done) | (simp [*]; done)), H', ⟨by have := HJ5.out; have := HK2.out; omega⟩, ⟨Kd.R_drewN HO_3.out _⟩, ⟨Kd.R_drewN HO_5.out _⟩, ⟨pw_below_drewN HB.out _⟩⟩
        ·rw [if_neg c34] at H
         exact absurd H (by simp)
       ·rw [if_neg c33] at H
        have c33b0 : decide (x11_2 < (t205.length : Int)) = false := decide_eq_false c33
        clear c33
        replace H := Option.bind_eq_some_iff.mp H
        obtain ⟨t221, A610, H⟩ := H
        replace H : (if t210 = t221 then ((impl_ValidUsers.f k2 t209).bind fun t222 => (some t222)) else (some false)) = some r := H
        have A61 := Aside0.mk A610
        clear A610
        by_cases c62 : t210 = t221
        ·rw [if_pos c62] at H
         have c62b0 : (t210 == t221) = true := beq_iff_eq.mpr c62
         have c62b1 : (t210 != t221) = false := bne_eq_false_iff_eq.mpr c62
         clear c62
         replace H := Option.bind_eq_some_iff.mp H
         obtain ⟨t222, A630, H⟩ := H
         replace H : (some t222) = some r := H
         have A63 := Aside0.mk A630
         clear A630
         obtain rfl := Option.some.inj H
         go_wp2_with (first | (go_at_call 9; (with_reducible refine (impl_NextUser.calls _ _ t205 t221 _ ?side1 ?side2 A61.out).mono ?_); (case side1 => exact cw_ (Kd.R_reads' HO_3.out).2.2); (case side2 => exact (Kd.R_reads' HO_3.out).2.1); rintro e w64 ⟨rfl, hb⟩; have n0_ := Aside0.mk (Kd.R_below (by (with_reducible repeat (first | apply Kd.R_alloc | apply Kd.R_drewN | apply Kd.R_drew)); exact HO_3.out) hb); have n1_ := Aside0.mk (Kd.R_below (by (with_reducible repeat (first | apply Kd.R_alloc | apply Kd.R_drewN | apply Kd.R_drew)); exact HO_5.out) hb); have n2_ := Aside0.mk (below_step blw_ hb); clear HO_3; clear HO_5; clear HB; have HO_3 := n0_; have HO_5 := n1_; have HB := n2_; clear n0_ n1_ n2_; (try clear hb); (try clear hb2); (try clear hk); (try clear hi); obtain ⟨Ao65, co65, eo65⟩ := Kd.R_slice HO_5.out; subst eo65) | (go_at_call 10; (with_reducible refine (impl_ValidUsers.calls k2 _ _ t209 t222 _ ?side1 ?side2 A63.out).mono ?_); (case side1 => exact cw_ (Kd.R_reads' HO_5.out).2.2); (case side2 => exact (Kd.R_reads' HO_5.out).2.1); rintro e w66 ⟨rfl, hb⟩; have n0_ := Aside0.mk (Kd.R_below (by (with_reducible repeat (first | apply Kd.R_alloc | apply Kd.R_drewN | apply Kd.R_drew)); exact HO_3.out) hb); have n1_ := Aside0.mk (Kd.R_below (by (with_reducible repeat (first | apply Kd.R_alloc | apply Kd.R_drewN | apply Kd.R_drew)); exact HO_5.out) hb); have n2_ := Aside0.mk (below_step blw_ hb); clear HO_3; clear HO_5; clear HB; have HO_3 := n0_; have HO_5 := n1_; have HB := n2_; clear n0_ n1_ n2_; (try clear hb); (try clear hb2); (try clear hk); (try clear hi)))
         repeat (go_quiet (first | (go_at_call 9; (with_reducible refine (impl_NextUser.calls _ _ t205 t221 _ ?side1 ?side2 A61.out).mono ?_); (case side1 => exact cw_ (Kd.R_reads' HO_3.out).2.2); (case side2 => exact (Kd.R_reads' HO_3.out).2.1); rintro e w64 ⟨rfl, hb⟩; have n0_ := Aside0.mk (Kd.R_below (by (with_reducible repeat (first | apply Kd.R_alloc | apply Kd.R_drewN | apply Kd.R_drew)); exact HO_3.out) hb); have n1_ := Aside0.mk (Kd.R_below (by (with_reducible repeat (first | apply Kd.R_alloc | apply Kd.R_drewN | apply Kd.R_drew)); exact HO_5.out) hb); have n2_ := Aside0.mk (below_step blw_ hb); clear HO_3; clear HO_5; clear HB; have HO_3 := n0_; have HO_5 := n1_; have HB := n2_; clear n0_ n1_ n2_; (try clear hb); (try clear hb2); (try clear hk); (try clear hi); obtain ⟨Ao65, co65, eo65⟩ := Kd.R_slice HO_5.out; subst eo65) | (go_at_call 10; (with_reducible refine (impl_ValidUsers.calls k2 _ _ t209 t222 _ ?side1 ?side2 A63.out).mono ?_); (case side1 => exact cw_ (Kd.R_reads' HO_5.out).2.2); (case side2 => exact (Kd.R_reads' HO_5.out).2.1); rintro e w66 ⟨rfl, hb⟩; have n0_ := Aside0.mk (Kd.R_below (by (with_reducible repeat (first | apply Kd.R_alloc | apply Kd.R_drewN | apply Kd.R_drew)); exact HO_3.out) hb); have n1_ := Aside0.mk (Kd.R_below (by (with_reducible repeat (first | apply Kd.R_alloc | apply Kd.R_drewN | apply Kd.R_drew)); exact HO_5.out) hb); have n2_ := Aside0.mk (below_step blw_ hb); clear HO_3; clear HO_5; clear HB; have HO_3 := n0_; have HO_5 := n1_; have HB := n2_; clear n0_ n1_ n2_; (try clear hb); (try clear hb2); (try clear hk); (try clear hi))); try go_wp2_with (first | (go_at_call 9; (with_reducible refine (impl_NextUser.calls _ _ t205 t221 _ ?side1 ?side2 A61.out).mono ?_); (case side1 => exact cw_ (Kd.R_reads' HO_3.out).2.2); (case side2 => exact (Kd.R_reads' HO_3.out).2.1); rintro e w64 ⟨rfl, hb⟩; have n0_ := Aside0.mk (Kd.R_below (by (with_reducible repeat (first | apply Kd.R_alloc | apply Kd.R_drewN | apply Kd.R_drew)); exact HO_3.out) hb); have n1_ := Aside0.mk (Kd.R_below (by (with_reducible repeat (first | apply Kd.R_alloc | apply Kd.R_drewN | apply Kd.R_drew)); exact HO_5.out) hb); have n2_ := Aside0.mk (below_step blw_ hb); clear HO_3; clear HO_5; clear HB; have HO_3 := n0_; have HO_5 := n1_; have HB := n2_; clear n0_ n1_ n2_; (try clear hb); (try clear hb2); (try clear hk); (try clear hi); obtain ⟨Ao65, co65, eo65⟩ := Kd.R_slice HO_5.out; subst eo65) | (go_at_call 10; (with_reducible refine (impl_ValidUsers.calls k2 _ _ t209 t222 _ ?side1 ?side2 A63.out).mono ?_); (case side1 => exact cw_ (Kd.R_reads' HO_5.out).2.2); (case side2 => exact (Kd.R_reads' HO_5.out).2.1); rintro e w66 ⟨rfl, hb⟩; have n0_ := Aside0.mk (Kd.R_below (by (with_reducible repeat (first | apply Kd.R_alloc | apply Kd.R_drewN | apply Kd.R_drew)); exact HO_3.out) hb); have n1_ := Aside0.mk (Kd.R_below (by (with_reducible repeat (first | apply Kd.R_alloc | apply Kd.R_drewN | apply Kd.R_drew)); exact HO_5.out) hb); have n2_ := Aside0.mk (below_step blw_ hb); clear HO_3; clear HO_5; clear HB; have HO_3 := n0_; have HO_5 := n1_; have HB := n2_; clear n0_ n1_ n2_; (try clear hb); (try clear hb2); (try clear hk); (try clear hi))))
         go_ret
         exact ⟨by first | rfl | (simp [errW_none, errW_some] <;> rfl) | (simp [*, errW_none, errW_some] <;> rfl), blw_⟩
        ·rw [if_neg c62] at H
         have c62b0 : (t210 == t221) = false := beq_eq_false_iff_ne.mpr c62
         have c62b1 : (t210 != t221) = true := bne_iff_ne.mpr c62
         obtain rfl := Option.some.inj H
         go_wp2_with (first | (go_at_call 9; (with_reducible refine (impl_NextUser.calls _ _ t205 t221 _ ?side1 ?side2 A61.out).mono ?_); (case side1 => exact cw_ (Kd.R_reads' HO_3.out).2.2); (case side2 => exact (Kd.R_reads' HO_3.out).2.1); rintro e w67 ⟨rfl, hb⟩; have n0_ := Aside0.mk (Kd.R_below (by (with_reducible repeat (first | apply Kd.R_alloc | apply Kd.R_drewN | apply Kd.R_drew)); exact HO_3.out) hb); have n1_ := Aside0.mk (Kd.R_below (by (with_reducible repeat (first | apply Kd.R_alloc | apply Kd.R_drewN | apply Kd.R_drew)); exact HO_5.out) hb); have n2_ := Aside0.mk (below_step blw_ hb); clear HO_3; clear HO_5; clear HB; have HO_3 := n0_; have HO_5 := n1_; have HB := n2_; clear n0_ n1_ n2_; (try clear hb); (try clear hb2); (try clear hk); (try clear hi)))
         repeat (go_quiet (first | (go_at_call 9; (with_reducible refine (impl_NextUser.calls _ _ t205 t221 _ ?side1 ?side2 A61.out).mono ?_); (case side1 => exact cw_ (Kd.R_reads' HO_3.out).2.2); (case side2 => exact (Kd.R_reads' HO_3.out).2.1); rintro e w67 ⟨rfl, hb⟩; have n0_ := Aside0.mk (Kd.R_below (by (with_reducible repeat (first | apply Kd.R_alloc | apply Kd.R_drewN | apply Kd.R_drew)); exact HO_3.out) hb); have n1_ := Aside0.mk (Kd.R_below (by (with_reducible repeat (first | apply Kd.R_alloc | apply Kd.R_drewN | apply Kd.R_drew)); exact HO_5.out) hb); have n2_ := Aside0.mk (below_step blw_ hb); clear HO_3; clear HO_5; clear HB; have HO_3 := n0_; have HO_5 := n1_; have HB := n2_; clear n0_ n1_ n2_; (try clear hb); (try clear hb2); (try clear hk); (try clear hi))); try go_wp2_with (first | (go_at_call 9; (with_reducible refine (impl_NextUser.calls _ _ t205 t221 _ ?side1 ?side2 A61.out).mono ?_); (case side1 => exact cw_ (Kd.R_reads' HO_3.out).2.2); (case side2 => exact (Kd.R_reads' HO_3.out).2.1); rintro e w67 ⟨rfl, hb⟩; have n0_ := Aside0.mk (Kd.R_below (by (with_reducible repeat (first | apply Kd.R_alloc | apply Kd.R_drewN | apply Kd.R_drew)); exact HO_3.out) hb); have n1_ := Aside0.mk (Kd.R_below (by (with_reducible repeat (first | apply Kd.R_alloc | apply Kd.R_drewN | apply Kd.R_drew)); exact HO_5.out) hb); have n2_ := Aside0.mk (below_step blw_ hb); clear HO_3; clear HO_5; clear HB; have HO_3 := n0_; have HO_5 := n1_; have HB := n2_; clear n0_ n1_ n2_; (try clear hb); (try clear hb2); (try clear hk); (try clear hi))))
         go_ret
         exact ⟨by first | rfl | (simp [errW_none, errW_some] <;> rfl) | (simp [*, errW_none, errW_some] <;> rfl), blw_⟩

/-- THE ONE PURE STATEMENT of laws_FnServeUser: yours. -/
def laws_FnServeUser.Pure : Prop := ∀ (l0 : List Int), l0.length ≤ maxLen → l0.length * 1 ≤ 140737488351232 → (∀ x ∈ l0, (Lit.int .u8 x).wf = true) → ∃ k, laws_FnServeUser.f k l0 = some true
theorem laws_FnServeUser.walk (P : laws_FnServeUser.Pure) (a0 : Option Addr) (len0 cap0 : Nat) (z0 : List Int) (w : World) (w0 : (a0 = none ∧ len0 = 0 ∧ cap0 = 0 ∧ z0 = []) ∨ ∃ x, a0 = some x ∧ len0 ≤ cap0 ∧ cap0 ≤ maxLen ∧ z0.length = cap0 ∧ (∀ i, i < z0.length → w.cell? (x.add i) = some (.int .u8 (z0.getD i 0))) ∧ ∀ n ∈ z0, (Lit.int .u8 n).wf = true) (y0 : len0 * 1 ≤ 140737488351232) :
  Calls Try.prog 3 #[.slice a0 len0 cap0] w fun e w' => e = .returned (.bool true) ∧ Below w.heap.size w w' := by
 obtain ⟨l0, rfl, hr0, hm0, hw0, hc0⟩ := ReadsInt.ofRowC w0
 obtain ⟨k, h⟩ := P l0 hm0 y0 hw0
 refine (laws_FnServeUser.calls k _ _ l0 true w (Kd.C_of_reads (d := (0 : Int)) (h1 := fun _ => rfl) hr0) hc0 h).mono ?_
 rintro e w' ⟨rfl, hd⟩
 exact ⟨rfl, hd⟩

end Go.Proofs.Ytflponipbdgkeaa.G
