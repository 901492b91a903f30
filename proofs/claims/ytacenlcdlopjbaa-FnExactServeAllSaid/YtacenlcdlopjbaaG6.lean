-- Written by hyb.py, a driver of this session round the print.py of the kit. Lean checks it.
import Derived.Test.YtacenlcdlopjbaaG0
import Derived.Test.YtacenlcdlopjbaaG4
import Derived.Test.YtacenlcdlopjbaaG5
namespace Go.Proofs.Ytacenlcdlopjbaa.G
open Go.RowKit Go.Proofs.YtacenlcdlopjbaaW.PrintWords Go.Proofs.YtacenlcdlopjbaaW.PrintLast Go.Proofs.YtacenlcdlopjbaaW.PrintMore
attribute [local go_sem] max2_int min2_int max_two min_two max_three min_three max_four min_four   -- for this text's walks alone
set_option linter.unusedVariables false
set_option linter.unusedSimpArgs false

/-! ### spec_ServeUser: function 15 -/
def spec_ServeUser.f (k : Nat) (l0 : List (S31)) (a1 : Int) : Option ((List (S31)) × Int × Bool) := (spec_validUsers.f k l0).bind fun t194 => (if t194 = true then ((spec_inRange.f a1 1 20).bind fun t195 => (if t195 = true then ((spec_next.f k l0).bind fun t196 => (if t196 < 0 then (some (([] : List (S31)), (-1), false)) else ((spec_next.f k l0).bind fun t197 => ((some (([] : List (S31)) : List (S31))).bind fun y198 => (if y198.length + l0.length < 5864062014805 then ((some (y198 ++ l0 : List (S31))).bind fun y201 => (if 0 ≤ t197 then (if t197 < (y201.length : Int) then ((some (y201.set (t197 : Int).toNat (⟨(rd_T31 y201 t197).f0, mn (wrap64 (((rd_T31 y201 t197).f1) + a1)) 10000, (rd_T31 y201 t197).f2⟩ : S31) : List (S31))).bind fun y205 => (some ((y205.set (t197 : Int).toNat (⟨(rd_T31 y205 t197).f0, (rd_T31 y205 t197).f1, wrap64 (((rd_T31 y205 t197).f2) - 1)⟩ : S31)), t197, true))) else (none)) else (none))) else (none)))))) else (some (([] : List (S31)), (-1), false)))) else (some (([] : List (S31)), (-1), false)))
theorem spec_ServeUser.mono : ∀ a0 a1 k, LeO (spec_ServeUser.f k a0 a1) (spec_ServeUser.f (k + 1) a0 a1) := by
  intro a0 a1 k
  unfold spec_ServeUser.f
  repeat' first
      | (with_reducible exact spec_next.mono _ _)
      | (with_reducible exact spec_validUsers.mono _ _)
      | (with_reducible exact LeO.refl _)
      | (with_reducible exact LeO.none _)
      | (with_reducible refine LeO.ite ?_ ?_)
      | (with_reducible refine LeO.bind ?_ (fun _ => ?_))
      | exact spec_next.mono _ _
      | exact spec_validUsers.mono _ _
      | exact LeO.none _
      | refine LeO.ite ?_ ?_
      | refine LeO.bind ?_ (fun _ => ?_)
set_option maxHeartbeats 8000000 in
set_option maxRecDepth 100000 in
theorem spec_ServeUser.calls (k : Nat) (A0 : Option Addr) (c0 : Nat) (l0 : List (S31)) (a1 : Int) (r1 : List (S31)) (r2 : Int) (r3 : Bool) (w : World) (hr0 : Kd.C k31 w A0 l0.length l0) (hc0 : l0.length ≤ c0) (h : spec_ServeUser.f k l0 a1 = some (r1, r2, r3)) :
    Calls Try.prog 15 #[.slice A0 l0.length c0, .int .i64 a1] w fun e w' => ∃ v0_ : Value, e = .returned (.tuple #[v0_, .int .i64 r2, .bool r3]) ∧ Kd.R k31 31 w' w.heap.size (fun _ => True) v0_ r1 ∧ Below w.heap.size w w' := by
  have HR0 := Aside0.mk hr0
  have HC0 := Aside0.mk hc0
  clear hr0 hc0
  have HB := Aside0.mk (Below.refl w.heap.size w)
  have H : ((spec_validUsers.f k l0).bind fun t194 => (if t194 = true then ((spec_inRange.f a1 1 20).bind fun t195 => (if t195 = true then ((spec_next.f k l0).bind fun t196 => (if t196 < 0 then (some (([] : List (S31)), (-1), false)) else ((spec_next.f k l0).bind fun t197 => ((some (([] : List (S31)) : List (S31))).bind fun y198 => (if y198.length + l0.length < 5864062014805 then ((some (y198 ++ l0 : List (S31))).bind fun y201 => (if 0 ≤ t197 then (if t197 < (y201.length : Int) then ((some (y201.set (t197 : Int).toNat (⟨(rd_T31 y201 t197).f0, mn (wrap64 (((rd_T31 y201 t197).f1) + a1)) 10000, (rd_T31 y201 t197).f2⟩ : S31) : List (S31))).bind fun y205 => (some ((y205.set (t197 : Int).toNat (⟨(rd_T31 y205 t197).f0, (rd_T31 y205 t197).f1, wrap64 (((rd_T31 y205 t197).f2) - 1)⟩ : S31)), t197, true))) else (none)) else (none))) else (none)))))) else (some (([] : List (S31)), (-1), false)))) else (some (([] : List (S31)), (-1), false)))) = some (r1, r2, r3) := h
  clear h
  replace H := Option.bind_eq_some_iff.mp H
  obtain ⟨t194, A30, H⟩ := H
  replace H : (if t194 = true then ((spec_inRange.f a1 1 20).bind fun t195 => (if t195 = true then ((spec_next.f k l0).bind fun t196 => (if t196 < 0 then (some (([] : List (S31)), (-1), false)) else ((spec_next.f k l0).bind fun t197 => ((some (([] : List (S31)) : List (S31))).bind fun y198 => (if y198.length + l0.length < 5864062014805 then ((some (y198 ++ l0 : List (S31))).bind fun y201 => (if 0 ≤ t197 then (if t197 < (y201.length : Int) then ((some (y201.set (t197 : Int).toNat (⟨(rd_T31 y201 t197).f0, mn (wrap64 (((rd_T31 y201 t197).f1) + a1)) 10000, (rd_T31 y201 t197).f2⟩ : S31) : List (S31))).bind fun y205 => (some ((y205.set (t197 : Int).toNat (⟨(rd_T31 y205 t197).f0, (rd_T31 y205 t197).f1, wrap64 (((rd_T31 y205 t197).f2) - 1)⟩ : S31)), t197, true))) else (none)) else (none))) else (none)))))) else (some (([] : List (S31)), (-1), false)))) else (some (([] : List (S31)), (-1), false))) = some (r1, r2, r3) := H
  have A3 := Aside0.mk A30
  clear A30
  by_cases c4 : t194 = true
  · subst c4
    have H1 : ((spec_inRange.f a1 1 20).bind fun t195 => (if t195 = true then ((spec_next.f k l0).bind fun t196 => (if t196 < 0 then (some (([] : List (S31)), (-1), false)) else ((spec_next.f k l0).bind fun t197 => ((some (([] : List (S31)) : List (S31))).bind fun y198 => (if y198.length + l0.length < 5864062014805 then ((some (y198 ++ l0 : List (S31))).bind fun y201 => (if 0 ≤ t197 then (if t197 < (y201.length : Int) then ((some (y201.set (t197 : Int).toNat (⟨(rd_T31 y201 t197).f0, mn (wrap64 (((rd_T31 y201 t197).f1) + a1)) 10000, (rd_T31 y201 t197).f2⟩ : S31) : List (S31))).bind fun y205 => (some ((y205.set (t197 : Int).toNat (⟨(rd_T31 y205 t197).f0, (rd_T31 y205 t197).f1, wrap64 (((rd_T31 y205 t197).f2) - 1)⟩ : S31)), t197, true))) else (none)) else (none))) else (none)))))) else (some (([] : List (S31)), (-1), false)))) = some (r1, r2, r3) := by rw [if_pos rfl] at H; exact H
    clear H
    have H := H1
    clear H1
    replace H := Option.bind_eq_some_iff.mp H
    obtain ⟨t195, A50, H⟩ := H
    replace H : (if t195 = true then ((spec_next.f k l0).bind fun t196 => (if t196 < 0 then (some (([] : List (S31)), (-1), false)) else ((spec_next.f k l0).bind fun t197 => ((some (([] : List (S31)) : List (S31))).bind fun y198 => (if y198.length + l0.length < 5864062014805 then ((some (y198 ++ l0 : List (S31))).bind fun y201 => (if 0 ≤ t197 then (if t197 < (y201.length : Int) then ((some (y201.set (t197 : Int).toNat (⟨(rd_T31 y201 t197).f0, mn (wrap64 (((rd_T31 y201 t197).f1) + a1)) 10000, (rd_T31 y201 t197).f2⟩ : S31) : List (S31))).bind fun y205 => (some ((y205.set (t197 : Int).toNat (⟨(rd_T31 y205 t197).f0, (rd_T31 y205 t197).f1, wrap64 (((rd_T31 y205 t197).f2) - 1)⟩ : S31)), t197, true))) else (none)) else (none))) else (none)))))) else (some (([] : List (S31)), (-1), false))) = some (r1, r2, r3) := H
    have A5 := Aside0.mk A50
    clear A50
    by_cases c6 : t195 = true
    · subst c6
      have H1 : ((spec_next.f k l0).bind fun t196 => (if t196 < 0 then (some (([] : List (S31)), (-1), false)) else ((spec_next.f k l0).bind fun t197 => ((some (([] : List (S31)) : List (S31))).bind fun y198 => (if y198.length + l0.length < 5864062014805 then ((some (y198 ++ l0 : List (S31))).bind fun y201 => (if 0 ≤ t197 then (if t197 < (y201.length : Int) then ((some (y201.set (t197 : Int).toNat (⟨(rd_T31 y201 t197).f0, mn (wrap64 (((rd_T31 y201 t197).f1) + a1)) 10000, (rd_T31 y201 t197).f2⟩ : S31) : List (S31))).bind fun y205 => (some ((y205.set (t197 : Int).toNat (⟨(rd_T31 y205 t197).f0, (rd_T31 y205 t197).f1, wrap64 (((rd_T31 y205 t197).f2) - 1)⟩ : S31)), t197, true))) else (none)) else (none))) else (none)))))) = some (r1, r2, r3) := by rw [if_pos rfl] at H; exact H
      clear H
      have H := H1
      clear H1
      replace H := Option.bind_eq_some_iff.mp H
      obtain ⟨t196, A70, H⟩ := H
      replace H : (if t196 < 0 then (some (([] : List (S31)), (-1), false)) else ((spec_next.f k l0).bind fun t197 => ((some (([] : List (S31)) : List (S31))).bind fun y198 => (if y198.length + l0.length < 5864062014805 then ((some (y198 ++ l0 : List (S31))).bind fun y201 => (if 0 ≤ t197 then (if t197 < (y201.length : Int) then ((some (y201.set (t197 : Int).toNat (⟨(rd_T31 y201 t197).f0, mn (wrap64 (((rd_T31 y201 t197).f1) + a1)) 10000, (rd_T31 y201 t197).f2⟩ : S31) : List (S31))).bind fun y205 => (some ((y205.set (t197 : Int).toNat (⟨(rd_T31 y205 t197).f0, (rd_T31 y205 t197).f1, wrap64 (((rd_T31 y205 t197).f2) - 1)⟩ : S31)), t197, true))) else (none)) else (none))) else (none))))) = some (r1, r2, r3) := H
      have A7 := Aside0.mk A70
      clear A70
      by_cases c8 : t196 < 0
      · rw [if_pos c8] at H
        have c8b0 : decide (t196 < 0) = true := decide_eq_true c8
        clear c8
        simp only [Option.some.injEq, Prod.mk.injEq] at H
        obtain ⟨rfl, rfl, rfl⟩ := H
        go_enter Try.func15, Try.ntmps15
        go_wp2_with (first | ((with_reducible refine gate_callee (f := 29) rfl ?_); refine goesL_ (some 10) rfl rfl Try.func29 (by kernel_rfl) rfl #[.slice A0 l0.length c0] rfl (by (try simp only [List.map_toArray, List.map_cons, List.map_nil]); first | done | rfl | (simp only [List.length_drop, List.length_take]; rfl)) ?_; (with_reducible refine (spec_validUsers.calls k _ _ l0 true _ ?side1 ?side2 A3.out).mono ?_); (case side1 => repeat (first | exact HR0.out | (with_reducible refine Kd.C_alloc ?_ _) | (with_reducible refine Kd.C_drewN ?_ _) | (with_reducible refine Kd.C_drew ?_))); (case side2 => exact HC0.out); rintro e w' ⟨rfl, ⟨nd, rfl⟩⟩; refine ⟨_, rfl, ?_⟩) | (go_at_call 30; (with_reducible refine (spec_inRange.calls a1 1 20 true _ A5.out).mono ?_); rintro e w' ⟨rfl, ⟨nd, rfl⟩⟩) | (go_at_call 31; (with_reducible refine (spec_next.calls k _ _ l0 t196 _ ?side1 ?side2 A7.out).mono ?_); (case side1 => repeat (first | exact HR0.out | (with_reducible refine Kd.C_alloc ?_ _) | (with_reducible refine Kd.C_drewN ?_ _) | (with_reducible refine Kd.C_drew ?_))); (case side2 => exact HC0.out); rintro e w9 ⟨rfl, hb⟩; have n0_ := Aside0.mk (below_step (by repeat (first | (with_reducible first | exact HB.out | apply below_alloc | apply pw_below_drewN | apply below_drew1) | exact HB.out)) hb); clear HB; have HB := n0_; clear n0_; (try clear hb); (try clear hb2); (try clear hk); (try clear hi)))
        go_ret3
        exact ⟨_, by first | rfl | (simp [errW_none, errW_some] <;> rfl) | (simp [*, errW_none, errW_some] <;> rfl), by first | exact Kd.R_nil _ _ _ _ _ | exact Kd.N_nil _ _ _ _ _ | exact Kd.V_nil _ _ _ _ _ | exact Kd.Q_nil _ _ _ _ _ | exact Kd.S_nil _ _ _ _ _, by repeat (first | (with_reducible first | exact HB.out | apply below_alloc | apply pw_below_drewN | apply below_drew1) | exact HB.out)⟩
      · rw [if_neg c8] at H
        have c8b0 : decide (t196 < 0) = false := decide_eq_false c8
        clear c8
        replace H := Option.bind_eq_some_iff.mp H
        obtain ⟨t197, A100, H⟩ := H
        replace H : ((some (([] : List (S31)) : List (S31))).bind fun y198 => (if y198.length + l0.length < 5864062014805 then ((some (y198 ++ l0 : List (S31))).bind fun y201 => (if 0 ≤ t197 then (if t197 < (y201.length : Int) then ((some (y201.set (t197 : Int).toNat (⟨(rd_T31 y201 t197).f0, mn (wrap64 (((rd_T31 y201 t197).f1) + a1)) 10000, (rd_T31 y201 t197).f2⟩ : S31) : List (S31))).bind fun y205 => (some ((y205.set (t197 : Int).toNat (⟨(rd_T31 y205 t197).f0, (rd_T31 y205 t197).f1, wrap64 (((rd_T31 y205 t197).f2) - 1)⟩ : S31)), t197, true))) else (none)) else (none))) else (none))) = some (r1, r2, r3) := H
        have A10 := Aside0.mk A100
        clear A100
        obtain ⟨y198, hy198⟩ : ∃ y_ : List (S31), y_ = (([] : List (S31))) := ⟨_, rfl⟩
        replace H : (if y198.length + l0.length < 5864062014805 then ((some (y198 ++ l0 : List (S31))).bind fun y201 => (if 0 ≤ t197 then (if t197 < (y201.length : Int) then ((some (y201.set (t197 : Int).toNat (⟨(rd_T31 y201 t197).f0, mn (wrap64 (((rd_T31 y201 t197).f1) + a1)) 10000, (rd_T31 y201 t197).f2⟩ : S31) : List (S31))).bind fun y205 => (some ((y205.set (t197 : Int).toNat (⟨(rd_T31 y205 t197).f0, (rd_T31 y205 t197).f1, wrap64 (((rd_T31 y205 t197).f2) - 1)⟩ : S31)), t197, true))) else (none)) else (none))) else (none)) = some (r1, r2, r3) := by first | (rw [hy198]; with_reducible exact H) | (have H2_ := (Option.bind_some _ _).symm.trans H; rw [hy198]; with_reducible exact H2_) | (have H2_ := (Option.bind_some _ _).symm.trans H; with_reducible exact H2_) | with_reducible exact H | (rw [hy198]; exact H) | exact H
        have Ny198 := Aside0.mk hy198
        clear hy198
        by_cases c11 : y198.length + l0.length < 5864062014805
        · rw [if_pos c11] at H
          have LMc11 := Aside0.mk c11
          clear c11
          obtain ⟨y201, hy201⟩ : ∃ y_ : List (S31), y_ = (y198 ++ l0) := ⟨_, rfl⟩
          replace H : (if 0 ≤ t197 then (if t197 < (y201.length : Int) then ((some (y201.set (t197 : Int).toNat (⟨(rd_T31 y201 t197).f0, mn (wrap64 (((rd_T31 y201 t197).f1) + a1)) 10000, (rd_T31 y201 t197).f2⟩ : S31) : List (S31))).bind fun y205 => (some ((y205.set (t197 : Int).toNat (⟨(rd_T31 y205 t197).f0, (rd_T31 y205 t197).f1, wrap64 (((rd_T31 y205 t197).f2) - 1)⟩ : S31)), t197, true))) else (none)) else (none)) = some (r1, r2, r3) := by first | (rw [hy201]; with_reducible exact H) | (have H2_ := (Option.bind_some _ _).symm.trans H; rw [hy201]; with_reducible exact H2_) | (have H2_ := (Option.bind_some _ _).symm.trans H; with_reducible exact H2_) | with_reducible exact H | (rw [hy201]; exact H) | exact H
          have Ny201 := Aside0.mk hy201
          clear hy201
          by_cases c12 : 0 ≤ t197
          · rw [if_pos c12] at H
            have c12b0 : decide (0 ≤ t197) = true := decide_eq_true c12
            clear c12
            by_cases c13 : t197 < (y201.length : Int)
            · rw [if_pos c13] at H
              have c13b0 : decide (t197 < (y201.length : Int)) = true := decide_eq_true c13
              clear c13
              obtain ⟨ji14, hji14⟩ : ∃ j_ : Int, (mn (wrap64 (((rd_T31 y201 t197).f1) + a1)) 10000) = j_ := ⟨_, rfl⟩
              replace H : ((some (y201.set (t197 : Int).toNat (⟨(rd_T31 y201 t197).f0, ji14, (rd_T31 y201 t197).f2⟩ : S31) : List (S31))).bind fun y205 => (some ((y205.set (t197 : Int).toNat (⟨(rd_T31 y205 t197).f0, (rd_T31 y205 t197).f1, wrap64 (((rd_T31 y205 t197).f2) - 1)⟩ : S31)), t197, true))) = some (r1, r2, r3) := by first | (rw [hji14] at H; exact H) | (simp only [hji14] at H ⊢; exact H)
              (try rw [hji14] at A3)
              (try rw [hji14] at A5)
              (try rw [hji14] at A7)
              (try rw [hji14] at A10)
              (try (have hji14h : ji14 ≤ 10000 := by (rw [← hji14]; unfold mn; (repeat' split) <;> omega)))
              (try (have hji14g : ji14 ≤ 64 := by omega))
              have hji14_ : (if 10000 < (wrap64 (((rd_T31 y201 t197).f1) + a1)) then 10000 else (wrap64 (((rd_T31 y201 t197).f1) + a1))) = ji14 := hji14
              obtain ⟨y205, hy205⟩ : ∃ y_ : List (S31), y_ = (y201.set (t197 : Int).toNat (⟨(rd_T31 y201 t197).f0, ji14, (rd_T31 y201 t197).f2⟩ : S31)) := ⟨_, rfl⟩
              replace H : (some ((y205.set (t197 : Int).toNat (⟨(rd_T31 y205 t197).f0, (rd_T31 y205 t197).f1, wrap64 (((rd_T31 y205 t197).f2) - 1)⟩ : S31)), t197, true)) = some (r1, r2, r3) := by first | (rw [hy205]; with_reducible exact H) | (have H2_ := (Option.bind_some _ _).symm.trans H; rw [hy205]; with_reducible exact H2_) | (have H2_ := (Option.bind_some _ _).symm.trans H; with_reducible exact H2_) | with_reducible exact H | (rw [hy205]; exact H) | exact H
              have Ny205 := Aside0.mk hy205
              clear hy205
              obtain ⟨y207, hy207⟩ : ∃ y_ : List (S31), y_ = (y205.set (t197 : Int).toNat (⟨(rd_T31 y205 t197).f0, (rd_T31 y205 t197).f1, wrap64 (((rd_T31 y205 t197).f2) - 1)⟩ : S31)) := ⟨_, rfl⟩
              replace H : (some (y207, t197, true)) = some (r1, r2, r3) := by first | (rw [hy207]; with_reducible exact H) | (have H2_ := (Option.bind_some _ _).symm.trans H; rw [hy207]; with_reducible exact H2_) | (have H2_ := (Option.bind_some _ _).symm.trans H; with_reducible exact H2_) | with_reducible exact H | (rw [hy207]; exact H) | exact H
              have Ny207 := Aside0.mk hy207
              clear hy207
              simp only [Option.some.injEq, Prod.mk.injEq] at H
              obtain ⟨rfl, rfl, rfl⟩ := H
              go_enter Try.func15, Try.ntmps15
              go_wp2_with (first | ((with_reducible refine gate_callee (f := 29) rfl ?_); refine goesL_ (some 10) rfl rfl Try.func29 (by kernel_rfl) rfl #[.slice A0 l0.length c0] rfl (by (try simp only [List.map_toArray, List.map_cons, List.map_nil]); first | done | rfl | (simp only [List.length_drop, List.length_take]; rfl)) ?_; (with_reducible refine (spec_validUsers.calls k _ _ l0 true _ ?side1 ?side2 A3.out).mono ?_); (case side1 => repeat (first | exact HR0.out | (with_reducible refine Kd.C_alloc ?_ _) | (with_reducible refine Kd.C_drewN ?_ _) | (with_reducible refine Kd.C_drew ?_))); (case side2 => exact HC0.out); rintro e w' ⟨rfl, ⟨nd, rfl⟩⟩; refine ⟨_, rfl, ?_⟩) | (go_at_call 30; (with_reducible refine (spec_inRange.calls a1 1 20 true _ A5.out).mono ?_); rintro e w' ⟨rfl, ⟨nd, rfl⟩⟩) | (go_at_call 31; (with_reducible refine (spec_next.calls k _ _ l0 t196 _ ?side1 ?side2 A7.out).mono ?_); (case side1 => repeat (first | exact HR0.out | (with_reducible refine Kd.C_alloc ?_ _) | (with_reducible refine Kd.C_drewN ?_ _) | (with_reducible refine Kd.C_drew ?_))); (case side2 => exact HC0.out); rintro e w17 ⟨rfl, hb⟩; have n0_ := Aside0.mk (below_step (by repeat (first | (with_reducible first | exact HB.out | apply below_alloc | apply pw_below_drewN | apply below_drew1) | exact HB.out)) hb); clear HB; have HB := n0_; clear n0_; (try clear hb); (try clear hb2); (try clear hk); (try clear hi)) | ((with_reducible refine gate_callee (f := 31) rfl ?_); refine goesL_ (some 23) rfl rfl Try.func31 (by kernel_rfl) rfl #[.slice A0 l0.length c0] rfl (by (try simp only [List.map_toArray, List.map_cons, List.map_nil]); first | done | rfl | (simp only [List.length_drop, List.length_take]; rfl)) ?_; (with_reducible refine (spec_next.calls k _ _ l0 t197 _ ?side1 ?side2 A10.out).mono ?_); (case side1 => repeat (first | exact (Kd.C_below HR0.out HB.out) | (with_reducible refine Kd.C_alloc ?_ _) | (with_reducible refine Kd.C_drewN ?_ _) | (with_reducible refine Kd.C_drew ?_))); (case side2 => exact HC0.out); rintro e w18 ⟨rfl, hb⟩; refine ⟨_, rfl, ?_⟩; have n0_ := Aside0.mk (below_step (by repeat (first | (with_reducible first | exact HB.out | apply below_alloc | apply pw_below_drewN | apply below_drew1) | exact HB.out)) hb); clear HB; have HB := n0_; clear n0_; (try clear hb); (try clear hb2); (try clear hk); (try clear hi)) | ((with_reducible refine gate_dst (N := 24) rfl ?_); refine Kd.R_lit k31 _ 31 ?hg (N := 24) ?hd (xs := ([] : List (S31))) (inner := []) (ok := fun _ => True) (okp := fun _ => True) ?hr ?hp (fun _ hk => hk) trivial (Below.refl _ _) (Nat.le_refl _) (by simp) ?_; (case hd => rfl); (case hg => rfl); (case hr => first | (go_simp; done) | (go_simp; rfl)); (case hp => exact (Reps.none _ _)); intro v199 w19 ho20 hb hg_ hnew_; clear hg_ hnew_; (first | rw [← Ny198.out] at ho20 | (simp only [Int.reduceToNat] at ho20; rw [← Ny198.out] at ho20)); have n0_ := Aside0.mk (Kd.R_lower ho20 (below_size (by repeat (first | (with_reducible first | exact HB.out | apply below_alloc | apply pw_below_drewN | apply below_drew1) | exact HB.out)))); have n1_ := Aside0.mk (below_step (by repeat (first | (with_reducible first | exact HB.out | apply below_alloc | apply pw_below_drewN | apply below_drew1) | exact HB.out)) hb); clear HB; have HO200 := n0_; have HB := n1_; clear n0_ n1_; clear hb ho20) | ((with_reducible refine gate_builtin (b := .append) (xs := #[.tmp 24, .tmp 25]) rfl ?_); at_builtin; refine Kd.R_append_rows k31 (w0 := w) w.heap.size rfl (.tmp 24) (.tmp 25) 23 31 (.agg #[(.int .i64 0), (.int .i64 0), (.int .i64 0)]) 24 rfl Try.underlying23 info31 rfl (by decide) (by omega) v199 y198 l0 _ _ _ (fun _ => True) (fun _ => False) rfl rfl ?aO ?aR (fun _ _ h => h) (fun _ h => h.elim) ?aF ?aB ?aS ?aL ?_; (case aR => repeat (first | exact (Kd.C_below HR0.out HB.out) | (with_reducible refine Kd.C_alloc ?_ _) | (with_reducible refine Kd.C_drewN ?_ _) | (with_reducible refine Kd.C_drew ?_))); (case aB => exact (by repeat (first | (with_reducible first | exact HB.out | apply below_alloc | apply pw_below_drewN | apply below_drew1) | exact HB.out))); (case aF => exact (fun _ _ => trivial)); (case aO => exact (by (with_reducible repeat (first | apply Kd.R_alloc | apply Kd.R_drewN | apply Kd.R_drew)); exact HO200.out)); (case aS => exact (below_size (by repeat (first | (with_reducible first | exact HB.out | apply below_alloc | apply pw_below_drewN | apply below_drew1) | exact HB.out)))); (case aL => have := LMc11.out; omega); intro v202 w21 ho hb hg hat; rw [← Ny201.out] at ho; have n0_ := Aside0.mk (hb); have n1_ := Aside0.mk (ho); clear HB; clear HO200; have HB := n0_; have HO203 := n1_; clear n0_ n1_; clear ho hb hg hat; obtain ⟨Ao22, co22, eo22⟩ := Kd.R_slice HO203.out; subst eo22; have p204 : 0 ≤ (t197 : Int) := of_decide_eq_true (by first | (with_reducible assumption) | assumption); have q204 : t197 < (y201.length : Int) := of_decide_eq_true (by first | (with_reducible assumption) | assumption); obtain ⟨ad204, e204, hx204_0, hx204_1, hx204_2⟩ := at_T31 (Kd.R_reads' HO203.out).2.2 t197 p204 q204; cases e204; replace p204 := eq_true p204; replace q204 := eq_true q204; have p15 : 0 ≤ (t197 : Int) := of_decide_eq_true (by first | (with_reducible assumption) | assumption); have q15 : (t197 : Int) < ((y201.length : Int) : Int) := of_decide_eq_true (by first | (with_reducible assumption) | assumption); obtain ⟨go15, co15, eo15, gb15, gl15, cl15, HG15⟩ := Kd.R_form HO203.out (by omega); (first | cases eo15 | (injection eo15 with ea_ en_ ec_; (first | subst ea_ | (injection ea_ with ea_; subst ea_)); subst ec_; clear en_)); have GB15 := Aside0.mk gb15; have GG15 := Aside0.mk HG15; clear gb15 gl15 HG15; (first | simp only [add_plain] at hx204_0 | skip); (first | simp only [add_plain] at hx204_1 | skip); (first | simp only [add_plain] at hx204_2 | skip); obtain ⟨ce15, hcl15, hM15, hcc15, hfr15⟩ := Kd.R_elem HO203.out z31 (t197 : Int) p15 q15; obtain rfl := k31_openM hM15; have hx15_0 : w21.cell? ⟨go15, (t197 : Int).toNat * 3, none⟩ = some (.int .i64 ((rd_T31 y201 t197).f0)) := hcc15 0 _ rfl; have hx15_1 : w21.cell? ⟨go15, (t197 : Int).toNat * 3 + 1, none⟩ = some (.int .i64 ((rd_T31 y201 t197).f1)) := hcc15 1 _ rfl; have hx15_2 : w21.cell? ⟨go15, (t197 : Int).toNat * 3 + 2, none⟩ = some (.int .i64 ((rd_T31 y201 t197).f2)) := hcc15 2 _ rfl; have hf15_0 : w21.frozen? ⟨go15, (t197 : Int).toNat * 3, none⟩ = false := hfr15 0; have hf15_1 : w21.frozen? ⟨go15, (t197 : Int).toNat * 3 + 1, none⟩ = false := hfr15 1; have hf15_2 : w21.frozen? ⟨go15, (t197 : Int).toNat * 3 + 2, none⟩ = false := hfr15 2; clear hcl15 hcc15 hfr15 hM15; replace p15 := eq_true p15; replace q15 := eq_true q15; have HX23 := Aside0.mk (show Kd.R k31 31 w21 w.heap.size (fun _ => True) (.slice (some ⟨go15, 0, none⟩) y201.length co22) y201 from (by (with_reducible repeat (first | apply Kd.R_alloc | apply Kd.R_drewN | apply Kd.R_drew)); exact HO203.out)); obtain ⟨ce23, hcl23, hM23, hcc23, hfr23⟩ := Kd.R_elem HX23.out z31 (t197 : Int) (of_decide_eq_true (by first | (with_reducible assumption) | assumption)) (by have h_ : (t197 : Int) < ((y201.length : Int) : Int) := of_decide_eq_true (by first | (with_reducible assumption) | assumption); first | exact h_ | (have e_ := (Kd.R_reads' HO203.out).1; omega) | simpa using h_); obtain rfl := k31_openM hM23; have HP23 := Kd.R_seg HX23.out (t197 : Int) (of_decide_eq_true (by first | (with_reducible assumption) | assumption)) (by have h_ : (t197 : Int) < ((y201.length : Int) : Int) := of_decide_eq_true (by first | (with_reducible assumption) | assumption); first | exact h_ | (have e_ := (Kd.R_reads' HO203.out).1; omega) | simpa using h_) (seg := [.int .i64 ji14]) (j := 1) hcl23 hcc23 (show 2 ≤ 3 from by decide) (x' := (⟨(rd_T31 y201 t197).f0, ji14, (rd_T31 y201 t197).f2⟩ : S31)) (k31_mkM _ _ _ (⟨(rd_T31 y201 t197).f0, ji14, (rd_T31 y201 t197).f2⟩ : S31) ) (fun _ hk => hk); have hx23_1 := hcc23 1 _ rfl; (try simp only [show (k31).sz = 3 from rfl, Nat.mul_one, Nat.add_zero] at hx23_1); have hf23_1 := hfr23 1; (try simp only [show (k31).sz = 3 from rfl, Nat.mul_one, Nat.add_zero] at hf23_1); clear hcl23 hcc23 hfr23 hM23) | ((with_reducible refine gate_store (t := 3) (p := 38) rfl ?_); refine store_event (t := 3) (p := 38) (v := ?vo_w24) (w1 := (w21.setCell ⟨go15, (t197 : Int).toNat * 3 + 1, none⟩ (.int .i64 ji14))) ?hg ?ho ?hn ?hr ?_; (case ho => rfl); (case hg => rfl); (case hn => rfl); (case hr => first | (go_simp; done) | (go_simp; rfl)); intro w24 hw; have hg : w21.grownBy w24 (some go15) := (by rw [hw]; exact HP23.2); have hp_ : Kd.R k31 31 w24 w.heap.size (fun _ => True) (.slice (some ⟨go15, 0, none⟩) y201.length co22) y205 := (by rw [hw, Ny205.out]; exact HP23.1); clear HP23; have n0_ := Aside0.mk (hp_); have n1_ := Aside0.mk ((by rw [hw]; exact below_set (HB.out) GB15.out : Below w.heap.size w w24)); clear HO203; clear HB; have HO203 := n0_; have HB := n1_; clear n0_ n1_; clear hg hw hp_; have p206 : 0 ≤ (t197 : Int) := of_decide_eq_true (by first | (with_reducible assumption) | assumption); have q206 : t197 < (y205.length : Int) := (by have h_ : (t197 : Int) < ((y201.length : Int) : Int) := of_decide_eq_true (by first | (with_reducible assumption) | assumption); first | (have e_ := (Kd.R_reads' HO203.out).1; omega) | simpa only [Ny205.out, List.length_set] using h_); have ql206 : ((t197 : Int) < ((y201.length : Int) : Int)) = True := eq_true (of_decide_eq_true (by first | (with_reducible assumption) | assumption)); obtain ⟨ad206, e206, hx206_0, hx206_1, hx206_2⟩ := at_T31 (Kd.R_reads' HO203.out).2.2 t197 p206 q206; obtain rfl : (⟨go15, 0, none⟩ : Addr) = ad206 := (by injection e206); (first | simp only [add_plain] at hx206_0 | simp only [add_at] at hx206_0 | simp only [Addr.add, Nat.zero_add] at hx206_0 | skip); (first | simp only [add_plain] at hx206_1 | simp only [add_at] at hx206_1 | simp only [Addr.add, Nat.zero_add] at hx206_1 | skip); (first | simp only [add_plain] at hx206_2 | simp only [add_at] at hx206_2 | simp only [Addr.add, Nat.zero_add] at hx206_2 | skip); replace p206 := eq_true p206; replace q206 := eq_true q206; have p16 : 0 ≤ (t197 : Int) := of_decide_eq_true (by first | (with_reducible assumption) | assumption); have q16 : (t197 : Int) < ((y201.length : Int) : Int) := of_decide_eq_true (by first | (with_reducible assumption) | assumption); obtain ⟨ce16, hcl16, hM16, hcc16, hfr16⟩ := Kd.R_elem HO203.out z31 (t197 : Int) p16 q16; obtain rfl := k31_openM hM16; have hx16_0 : w24.cell? ⟨go15, (t197 : Int).toNat * 3, none⟩ = some (.int .i64 ((rd_T31 y205 t197).f0)) := hcc16 0 _ rfl; have hx16_1 : w24.cell? ⟨go15, (t197 : Int).toNat * 3 + 1, none⟩ = some (.int .i64 ((rd_T31 y205 t197).f1)) := hcc16 1 _ rfl; have hx16_2 : w24.cell? ⟨go15, (t197 : Int).toNat * 3 + 2, none⟩ = some (.int .i64 ((rd_T31 y205 t197).f2)) := hcc16 2 _ rfl; have hf16_0 : w24.frozen? ⟨go15, (t197 : Int).toNat * 3, none⟩ = false := hfr16 0; have hf16_1 : w24.frozen? ⟨go15, (t197 : Int).toNat * 3 + 1, none⟩ = false := hfr16 1; have hf16_2 : w24.frozen? ⟨go15, (t197 : Int).toNat * 3 + 2, none⟩ = false := hfr16 2; clear hcl16 hcc16 hfr16 hM16; replace p16 := eq_true p16; replace q16 := eq_true q16; have HX25 := Aside0.mk (show Kd.R k31 31 w24 w.heap.size (fun _ => True) (.slice (some ⟨go15, 0, none⟩) y201.length co22) y205 from (by (with_reducible repeat (first | apply Kd.R_alloc | apply Kd.R_drewN | apply Kd.R_drew)); exact HO203.out)); obtain ⟨ce25, hcl25, hM25, hcc25, hfr25⟩ := Kd.R_elem HX25.out z31 (t197 : Int) (of_decide_eq_true (by first | (with_reducible assumption) | assumption)) (by have h_ : (t197 : Int) < ((y201.length : Int) : Int) := of_decide_eq_true (by first | (with_reducible assumption) | assumption); first | exact h_ | (have e_ := (Kd.R_reads' HO203.out).1; omega) | simpa using h_); obtain rfl := k31_openM hM25; have HP25 := Kd.R_seg HX25.out (t197 : Int) (of_decide_eq_true (by first | (with_reducible assumption) | assumption)) (by have h_ : (t197 : Int) < ((y201.length : Int) : Int) := of_decide_eq_true (by first | (with_reducible assumption) | assumption); first | exact h_ | (have e_ := (Kd.R_reads' HO203.out).1; omega) | simpa using h_) (seg := [.int .i64 (wrap64 (((rd_T31 y205 t197).f2) - 1))]) (j := 2) hcl25 hcc25 (show 3 ≤ 3 from by decide) (x' := (⟨(rd_T31 y205 t197).f0, (rd_T31 y205 t197).f1, wrap64 (((rd_T31 y205 t197).f2) - 1)⟩ : S31)) (k31_mkM _ _ _ (⟨(rd_T31 y205 t197).f0, (rd_T31 y205 t197).f1, wrap64 (((rd_T31 y205 t197).f2) - 1)⟩ : S31) ) (fun _ hk => hk); have hx25_2 := hcc25 2 _ rfl; (try simp only [show (k31).sz = 3 from rfl, Nat.mul_one, Nat.add_zero] at hx25_2); have hf25_2 := hfr25 2; (try simp only [show (k31).sz = 3 from rfl, Nat.mul_one, Nat.add_zero] at hf25_2); clear hcl25 hcc25 hfr25 hM25) | ((with_reducible refine gate_store (t := 3) (p := 48) rfl ?_); refine store_event (t := 3) (p := 48) (v := ?vo_w26) (w1 := (w24.setCell ⟨go15, (t197 : Int).toNat * 3 + 2, none⟩ (.int .i64 (wrap64 (((rd_T31 y205 t197).f2) - 1))))) ?hg ?ho ?hn ?hr ?_; (case ho => rfl); (case hg => rfl); (case hn => rfl); (case hr => first | (go_simp; done) | (go_simp; rfl)); intro w26 hw; have hg : w24.grownBy w26 (some go15) := (by rw [hw]; exact HP25.2); have hp_ : Kd.R k31 31 w26 w.heap.size (fun _ => True) (.slice (some ⟨go15, 0, none⟩) y201.length co22) y207 := (by rw [hw, Ny207.out]; exact HP25.1); clear HP25; have n0_ := Aside0.mk (hp_); have n1_ := Aside0.mk ((by rw [hw]; exact below_set (HB.out) GB15.out : Below w.heap.size w w26)); clear HO203; clear HB; have HO203 := n0_; have HB := n1_; clear n0_ n1_; clear hg hw hp_))
              go_ret3
              exact ⟨_, by first | rfl | (simp [errW_none, errW_some] <;> rfl) | (simp only [← hji14]; first | rfl | (simp [errW_none, errW_some] <;> rfl)) | (simp [*, errW_none, errW_some] <;> rfl), by (with_reducible repeat (first | apply Kd.R_alloc | apply Kd.R_drewN | apply Kd.R_drew)); exact HO203.out, by repeat (first | (with_reducible first | exact HB.out | apply below_alloc | apply pw_below_drewN | apply below_drew1) | exact HB.out)⟩
            · rw [if_neg c13] at H
              exact absurd H (by simp)
          · rw [if_neg c12] at H
            exact absurd H (by simp)
        · rw [if_neg c11] at H
          exact absurd H (by simp)
    · replace c6 := Bool.eq_false_iff.mpr c6
      subst c6
      have H1 : (some (([] : List (S31)), (-1), false)) = some (r1, r2, r3) := by rw [if_neg (show ¬ (false = true) by decide)] at H; exact H
      clear H
      have H := H1
      clear H1
      simp only [Option.some.injEq, Prod.mk.injEq] at H
      obtain ⟨rfl, rfl, rfl⟩ := H
      go_enter Try.func15, Try.ntmps15
      go_wp2_with (first | ((with_reducible refine gate_callee (f := 29) rfl ?_); refine goesL_ (some 10) rfl rfl Try.func29 (by kernel_rfl) rfl #[.slice A0 l0.length c0] rfl (by (try simp only [List.map_toArray, List.map_cons, List.map_nil]); first | done | rfl | (simp only [List.length_drop, List.length_take]; rfl)) ?_; (with_reducible refine (spec_validUsers.calls k _ _ l0 true _ ?side1 ?side2 A3.out).mono ?_); (case side1 => repeat (first | exact HR0.out | (with_reducible refine Kd.C_alloc ?_ _) | (with_reducible refine Kd.C_drewN ?_ _) | (with_reducible refine Kd.C_drew ?_))); (case side2 => exact HC0.out); rintro e w' ⟨rfl, ⟨nd, rfl⟩⟩; refine ⟨_, rfl, ?_⟩) | (go_at_call 30; (with_reducible refine (spec_inRange.calls a1 1 20 false _ A5.out).mono ?_); rintro e w' ⟨rfl, ⟨nd, rfl⟩⟩))
      go_ret3
      exact ⟨_, by first | rfl | (simp [errW_none, errW_some] <;> rfl) | (simp [*, errW_none, errW_some] <;> rfl), by first | exact Kd.R_nil _ _ _ _ _ | exact Kd.N_nil _ _ _ _ _ | exact Kd.V_nil _ _ _ _ _ | exact Kd.Q_nil _ _ _ _ _ | exact Kd.S_nil _ _ _ _ _, by repeat (first | (with_reducible first | exact HB.out | apply below_alloc | apply pw_below_drewN | apply below_drew1) | exact HB.out)⟩
  · replace c4 := Bool.eq_false_iff.mpr c4
    subst c4
    have H1 : (some (([] : List (S31)), (-1), false)) = some (r1, r2, r3) := by rw [if_neg (show ¬ (false = true) by decide)] at H; exact H
    clear H
    have H := H1
    clear H1
    simp only [Option.some.injEq, Prod.mk.injEq] at H
    obtain ⟨rfl, rfl, rfl⟩ := H
    go_enter Try.func15, Try.ntmps15
    go_wp2_with (first | ((with_reducible refine gate_callee (f := 29) rfl ?_); refine goesL_ (some 10) rfl rfl Try.func29 (by kernel_rfl) rfl #[.slice A0 l0.length c0] rfl (by (try simp only [List.map_toArray, List.map_cons, List.map_nil]); first | done | rfl | (simp only [List.length_drop, List.length_take]; rfl)) ?_; (with_reducible refine (spec_validUsers.calls k _ _ l0 false _ ?side1 ?side2 A3.out).mono ?_); (case side1 => repeat (first | exact HR0.out | (with_reducible refine Kd.C_alloc ?_ _) | (with_reducible refine Kd.C_drewN ?_ _) | (with_reducible refine Kd.C_drew ?_))); (case side2 => exact HC0.out); rintro e w' ⟨rfl, ⟨nd, rfl⟩⟩; refine ⟨_, rfl, ?_⟩))
    go_ret3
    exact ⟨_, by first | rfl | (simp [errW_none, errW_some] <;> rfl) | (simp [*, errW_none, errW_some] <;> rfl), by first | exact Kd.R_nil _ _ _ _ _ | exact Kd.N_nil _ _ _ _ _ | exact Kd.V_nil _ _ _ _ _ | exact Kd.Q_nil _ _ _ _ _ | exact Kd.S_nil _ _ _ _ _, by repeat (first | (with_reducible first | exact HB.out | apply below_alloc | apply pw_below_drewN | apply below_drew1) | exact HB.out)⟩

/-! ### spec_ServeAll: function 12 -/
mutual
def spec_ServeAll.j0 : Nat → List (S31) → Int → List Int → Bool → Option (List Int)
  | 0, _, _, _, _ => none
  | k + 1, x0, x1, x5, x17 => if x17 = true then (some ([] : List Int)) else (spec_ServeAll.l0 k x0 x1 x5)
def spec_ServeAll.l0 : Nat → List (S31) → Int → List Int → Option (List Int)
  | 0, _, _, _ => none
  | k + 1, x0, x1, x5 => (spec_next.f k x0).bind fun t213 => (if t213 ≥ 0 then ((spec_ServeUser.f k x0 x1).bind fun bt214 => (if x5.length < 17592186044416 then (spec_ServeAll.l0 k bt214.1 x1 (x5 ++ [bt214.2.1])) else (none))) else (some x5))
end
def spec_ServeAll.f (k : Nat) (l0 : List (S31)) (a1 : Int) : Option (List Int) := (some (([] : List Int) : List Int)).bind fun y208 => ((spec_validUsers.f k l0).bind fun t211 => (if t211 = true then ((spec_inRange.f a1 1 20).bind fun t212 => (spec_ServeAll.j0 k l0 a1 y208 (!t212))) else (spec_ServeAll.j0 k l0 a1 y208 true)))
theorem spec_ServeAll.mono_l : ∀ k, (∀ y0 y1 y2 y3, LeO (spec_ServeAll.j0 k y0 y1 y2 y3) (spec_ServeAll.j0 (k + 1) y0 y1 y2 y3)) ∧ (∀ y0 y1 y2, LeO (spec_ServeAll.l0 k y0 y1 y2) (spec_ServeAll.l0 (k + 1) y0 y1 y2))
  | 0 => ⟨fun _ _ _ _ r h => by simp [spec_ServeAll.j0] at h, fun _ _ _ r h => by simp [spec_ServeAll.l0] at h⟩
  | k + 1 => by
    obtain ⟨ih0, ih1⟩ := spec_ServeAll.mono_l k
    refine ⟨?_, ?_⟩
    · intro y0 y1 y2 y3
      unfold spec_ServeAll.j0
      repeat' first
      | (with_reducible exact ih0 _ _ _ _)
      | (with_reducible exact ih1 _ _ _)
      | (with_reducible exact spec_ServeUser.mono _ _ _)
      | (with_reducible exact spec_next.mono _ _)
      | (with_reducible exact spec_validUsers.mono _ _)
      | (with_reducible exact LeO.refl _)
      | (with_reducible exact LeO.none _)
      | (with_reducible refine LeO.ite ?_ ?_)
      | (with_reducible refine LeO.bind ?_ (fun _ => ?_))
      | exact ih0 _ _ _ _
      | exact ih1 _ _ _
      | exact spec_ServeUser.mono _ _ _
      | exact spec_next.mono _ _
      | exact spec_validUsers.mono _ _
      | exact LeO.none _
      | refine LeO.ite ?_ ?_
      | refine LeO.bind ?_ (fun _ => ?_)
    · intro y0 y1 y2
      unfold spec_ServeAll.l0
      repeat' first
      | (with_reducible exact ih0 _ _ _ _)
      | (with_reducible exact ih1 _ _ _)
      | (with_reducible exact spec_ServeUser.mono _ _ _)
      | (with_reducible exact spec_next.mono _ _)
      | (with_reducible exact spec_validUsers.mono _ _)
      | (with_reducible exact LeO.refl _)
      | (with_reducible exact LeO.none _)
      | (with_reducible refine LeO.ite ?_ ?_)
      | (with_reducible refine LeO.bind ?_ (fun _ => ?_))
      | exact ih0 _ _ _ _
      | exact ih1 _ _ _
      | exact spec_ServeUser.mono _ _ _
      | exact spec_next.mono _ _
      | exact spec_validUsers.mono _ _
      | exact LeO.none _
      | refine LeO.ite ?_ ?_
      | refine LeO.bind ?_ (fun _ => ?_)
theorem spec_ServeAll.mono : ∀ a0 a1 k, LeO (spec_ServeAll.f k a0 a1) (spec_ServeAll.f (k + 1) a0 a1) := by
  intro a0 a1 k
  obtain ⟨ih0, ih1⟩ := spec_ServeAll.mono_l k
  unfold spec_ServeAll.f
  repeat' first
      | (with_reducible exact ih0 _ _ _ _)
      | (with_reducible exact ih1 _ _ _)
      | (with_reducible exact spec_ServeUser.mono _ _ _)
      | (with_reducible exact spec_next.mono _ _)
      | (with_reducible exact spec_validUsers.mono _ _)
      | (with_reducible exact LeO.refl _)
      | (with_reducible exact LeO.none _)
      | (with_reducible refine LeO.ite ?_ ?_)
      | (with_reducible refine LeO.bind ?_ (fun _ => ?_))
      | exact ih0 _ _ _ _
      | exact ih1 _ _ _
      | exact spec_ServeUser.mono _ _ _
      | exact spec_next.mono _ _
      | exact spec_validUsers.mono _ _
      | exact LeO.none _
      | refine LeO.ite ?_ ?_
      | refine LeO.bind ?_ (fun _ => ?_)
set_option maxHeartbeats 8000000 in
set_option maxRecDepth 100000 in
theorem spec_ServeAll.calls (k : Nat) (P0_ : Nat → Prop) (A0 : Option Addr) (c0 : Nat) (l0 : List (S31)) (a1 : Int) (r : List Int) (w : World) (hs0 : Kd.V k31 31 w w.heap.size (fun k_ => P0_ k_) (.slice A0 l0.length c0) l0) (h : spec_ServeAll.f k l0 a1 = some r) :
    Calls Try.prog 12 #[.slice A0 l0.length c0, .int .i64 a1] w fun e w' => ∃ v0_ : Value, e = .returned (v0_) ∧ Kd.R (Kd.int .i64) 3 w' w.heap.size (fun k_ => (w.heap.size ≤ k_)) v0_ r ∧ Below w.heap.size w w' := by
  have HO0 := Aside0.mk (show Kd.V k31 31 w w.heap.size (fun k_ => (P0_ k_ ∨ w.heap.size ≤ k_)) (.slice A0 l0.length c0) l0 from Kd.V_mono hs0 (fun k_ hk => .inl hk))
  have HB := Aside0.mk (Below.refl w.heap.size w)
  have H : ((some (([] : List Int) : List Int)).bind fun y208 => ((spec_validUsers.f k l0).bind fun t211 => (if t211 = true then ((spec_inRange.f a1 1 20).bind fun t212 => (spec_ServeAll.j0 k l0 a1 y208 (!t212))) else (spec_ServeAll.j0 k l0 a1 y208 true)))) = some r := h
  clear h
  obtain ⟨y208, hy208⟩ : ∃ y_ : List Int, y_ = (([] : List Int)) := ⟨_, rfl⟩
  replace H : ((spec_validUsers.f k l0).bind fun t211 => (if t211 = true then ((spec_inRange.f a1 1 20).bind fun t212 => (spec_ServeAll.j0 k l0 a1 y208 (!t212))) else (spec_ServeAll.j0 k l0 a1 y208 true))) = some r := by first | (rw [hy208]; with_reducible exact H) | (have H2_ := (Option.bind_some _ _).symm.trans H; rw [hy208]; with_reducible exact H2_) | (have H2_ := (Option.bind_some _ _).symm.trans H; with_reducible exact H2_) | with_reducible exact H | (rw [hy208]; exact H) | exact H
  have Ny208 := Aside0.mk hy208
  clear hy208
  have HC3 := Aside0.mk H
  clear H
  go_enter Try.func12, Try.ntmps12
  go_upto_region 2 with (first | ((with_reducible refine gate_dst (N := 9) rfl ?_); refine Kd.R_lit (Kd.int .i64) _ 3 ?hg (N := 9) ?hd (xs := ([] : List Int)) (inner := []) (ok := fun _ => True) (okp := fun _ => True) ?hr ?hp (fun _ hk => hk) trivial (Below.refl _ _) (Nat.le_refl _) (by simp) ?_; (case hd => rfl); (case hg => rfl); (case hr => first | (go_simp; done) | (go_simp; rfl)); (case hp => exact (Reps.none _ _)); intro v209 w4 ho5 hb hg_ hnew_; clear hg_ hnew_; (first | rw [← Ny208.out] at ho5 | (simp only [Int.reduceToNat] at ho5; rw [← Ny208.out] at ho5)); have n0_ := Aside0.mk (Kd.V_elder' (by (with_reducible repeat (first | apply Kd.V_alloc | apply Kd.V_drewN | apply Kd.V_drew)); exact HO0.out) (Kd.R_base ho5) hb); have n1_ := Aside0.mk (Kd.R_lower (Kd.R_newM (M := fun k_ => (w.heap.size ≤ k_)) ho5 (below_size (by repeat (first | (with_reducible first | exact HB.out | apply below_alloc | apply pw_below_drewN | apply below_drew1) | exact HB.out))) (fun k_ h_ => h_)) (below_size (by repeat (first | (with_reducible first | exact HB.out | apply below_alloc | apply pw_below_drewN | apply below_drew1) | exact HB.out)))); have n2_ := Aside0.mk (below_step (by repeat (first | (with_reducible first | exact HB.out | apply below_alloc | apply pw_below_drewN | apply below_drew1) | exact HB.out)) hb); clear HO0; clear HB; have HO0 := n0_; have HO210 := n1_; have HB := n2_; clear n0_ n1_ n2_; clear hb ho5))
  (try simp only [Act.put, List.setIfInBounds_toArray, List.set_cons_zero, List.set_cons_succ])
  go_cut [17] (fun v17 wc => ∃ (kq : Nat) (x17_2 : Bool), v17 = .bool x17_2 ∧ Aside0 (spec_ServeAll.j0 kq l0 a1 y208 x17_2 = some r) ∧ Aside0 (kq ≤ k) ∧ Aside0 (Kd.V k31 31 wc w.heap.size (fun k_ => (P0_ k_ ∨ w.heap.size ≤ k_) ∧ some k_ ≠ (v209 : Value).ownBlock) (.slice A0 l0.length c0) l0) ∧ Aside0 (Kd.R (Kd.int .i64) 3 wc w.heap.size (fun k_ => (w.heap.size ≤ k_)) v209 y208) ∧ Aside0 (Below w.heap.size w wc))
  case first =>
    have H := HC3.out
    clear HC3
    replace H := Option.bind_eq_some_iff.mp H
    obtain ⟨t211, A60, H⟩ := H
    replace H : (if t211 = true then ((spec_inRange.f a1 1 20).bind fun t212 => (spec_ServeAll.j0 k l0 a1 y208 (!t212))) else (spec_ServeAll.j0 k l0 a1 y208 true)) = some r := H
    have A6 := Aside0.mk A60
    clear A60
    by_cases c7 : t211 = true
    · subst c7
      have H1 : ((spec_inRange.f a1 1 20).bind fun t212 => (spec_ServeAll.j0 k l0 a1 y208 (!t212))) = some r := by rw [if_pos rfl] at H; exact H
      clear H
      have H := H1
      clear H1
      replace H := Option.bind_eq_some_iff.mp H
      obtain ⟨t212, A80, H⟩ := H
      replace H : (spec_ServeAll.j0 k l0 a1 y208 (!t212)) = some r := H
      have A8 := Aside0.mk A80
      clear A80
      have H' := Aside0.mk H
      clear H
      go_wp2_with (first | ((with_reducible refine gate_callee (f := 29) rfl ?_); refine goesL_ (some 11) rfl rfl Try.func29 (by kernel_rfl) rfl #[.slice A0 l0.length c0] rfl (by (try simp only [List.map_toArray, List.map_cons, List.map_nil]); first | done | rfl | (simp only [List.length_drop, List.length_take]; rfl)) ?_; (with_reducible refine (spec_validUsers.calls k _ _ l0 true _ ?side1 ?side2 A6.out).mono ?_); (case side1 => repeat (first | exact (Kd.V_reads' HO0.out).2.2 | (with_reducible refine Kd.C_alloc ?_ _) | (with_reducible refine Kd.C_drewN ?_ _) | (with_reducible refine Kd.C_drew ?_))); (case side2 => exact (Kd.V_reads' HO0.out).2.1); rintro e w' ⟨rfl, ⟨nd, rfl⟩⟩; refine ⟨_, rfl, ?_⟩) | (go_at_call 30; (with_reducible refine (spec_inRange.calls a1 1 20 t212 _ A8.out).mono ?_); rintro e w' ⟨rfl, ⟨nd, rfl⟩⟩))
      go_meet
      case rel => exact ⟨_, (!t212), (by first | rfl | (simp; done) | (simp [*]; done)), H', ⟨by first | omega | exact Nat.le_refl _⟩, ⟨by (with_reducible repeat (first | apply Kd.V_alloc | apply Kd.V_drewN | apply Kd.V_drew)); exact HO0.out⟩, ⟨by (with_reducible repeat (first | apply Kd.R_alloc | apply Kd.R_drewN | apply Kd.R_drew)); exact Kd.R_mono HO210.out (fun _ hk => hk.1)⟩, ⟨by repeat (first | (with_reducible first | exact HB.out | apply below_alloc | apply pw_below_drewN | apply below_drew1) | exact HB.out)⟩⟩
    · replace c7 := Bool.eq_false_iff.mpr c7
      subst c7
      have H1 : (spec_ServeAll.j0 k l0 a1 y208 true) = some r := by rw [if_neg (show ¬ (false = true) by decide)] at H; exact H
      clear H
      have H := H1
      clear H1
      have H' := Aside0.mk H
      clear H
      go_wp2_with (first | ((with_reducible refine gate_callee (f := 29) rfl ?_); refine goesL_ (some 11) rfl rfl Try.func29 (by kernel_rfl) rfl #[.slice A0 l0.length c0] rfl (by (try simp only [List.map_toArray, List.map_cons, List.map_nil]); first | done | rfl | (simp only [List.length_drop, List.length_take]; rfl)) ?_; (with_reducible refine (spec_validUsers.calls k _ _ l0 false _ ?side1 ?side2 A6.out).mono ?_); (case side1 => repeat (first | exact (Kd.V_reads' HO0.out).2.2 | (with_reducible refine Kd.C_alloc ?_ _) | (with_reducible refine Kd.C_drewN ?_ _) | (with_reducible refine Kd.C_drew ?_))); (case side2 => exact (Kd.V_reads' HO0.out).2.1); rintro e w' ⟨rfl, ⟨nd, rfl⟩⟩; refine ⟨_, rfl, ?_⟩))
      go_meet
      case rel => exact ⟨_, (true), (by first | rfl | (simp; done) | (simp [*]; done)), H', ⟨by first | omega | exact Nat.le_refl _⟩, ⟨by (with_reducible repeat (first | apply Kd.V_alloc | apply Kd.V_drewN | apply Kd.V_drew)); exact HO0.out⟩, ⟨by (with_reducible repeat (first | apply Kd.R_alloc | apply Kd.R_drewN | apply Kd.R_drew)); exact Kd.R_mono HO210.out (fun _ hk => hk.1)⟩, ⟨by repeat (first | (with_reducible first | exact HB.out | apply below_alloc | apply pw_below_drewN | apply below_drew1) | exact HB.out)⟩⟩
  case rest =>
    clear HC3
    try clear c1
    try clear c2
    try clear p2
    try clear c7
    obtain ⟨kq, x17_2, rfl, HA, HJ2, HO_0, HO_5, HB⟩ := hcut
    cases kq with
    | zero => exact absurd HA.out (by simp [spec_ServeAll.j0])
    | succ kj2 =>
      have H := HA.out
      clear HA
      simp only [spec_ServeAll.j0] at H
      by_cases c9 : x17_2 = true
      · subst c9
        have H1 : (some ([] : List Int)) = some r := by rw [if_pos rfl] at H; exact H
        clear H
        have H := H1
        clear H1
        obtain rfl := Option.some.inj H
        go_wp2
        go_ret
        exact ⟨_, by first | rfl | (simp [errW_none, errW_some] <;> rfl) | (simp [*, errW_none, errW_some] <;> rfl), by first | exact Kd.R_nil _ _ _ _ _ | exact Kd.N_nil _ _ _ _ _ | exact Kd.V_nil _ _ _ _ _ | exact Kd.Q_nil _ _ _ _ _ | exact Kd.S_nil _ _ _ _ _, by repeat (first | (with_reducible first | exact HB.out | apply below_alloc | apply pw_below_drewN | apply below_drew1) | exact HB.out)⟩
      · replace c9 := Bool.eq_false_iff.mpr c9
        subst c9
        have H1 : (spec_ServeAll.l0 kj2 l0 a1 y208) = some r := by rw [if_neg (show ¬ (false = true) by decide)] at H; exact H
        clear H
        have H := H1
        clear H1
        have H' := Aside0.mk H
        clear H
        go_wp2
        go_loopg [0, 5] kj2 (fun kq v0 v5 w' => ∃ (x0_2 : List (S31)) (x5_2 : List Int), Aside0 (spec_ServeAll.l0 kq x0_2 a1 x5_2 = some r) ∧ Aside0 (kq ≤ kj2) ∧ Aside0 (Kd.V k31 31 w' w.heap.size (fun k_ => (P0_ k_ ∨ w.heap.size ≤ k_) ∧ some k_ ≠ (v5 : Value).ownBlock) v0 x0_2) ∧ Aside0 (Kd.R (Kd.int .i64) 3 w' w.heap.size (fun k_ => (w.heap.size ≤ k_)) v5 x5_2) ∧ Aside0 (Below w.heap.size w w'))
        case atStart => exact ⟨(l0), (y208), H', ⟨Nat.le_refl _⟩, ⟨by (with_reducible repeat (first | apply Kd.V_alloc | apply Kd.V_drewN | apply Kd.V_drew)); exact HO_0.out⟩, ⟨by (with_reducible repeat (first | apply Kd.R_alloc | apply Kd.R_drewN | apply Kd.R_drew)); exact HO_5.out⟩, ⟨by repeat (first | (with_reducible first | exact HB.out | apply below_alloc | apply pw_below_drewN | apply below_drew1) | exact HB.out)⟩⟩
        case round =>
          clear H'
          try clear c1
          try clear c2
          try clear p2
          try clear c7
          try clear c9
          try clear p2
          obtain ⟨x0_2, x5_2, HA, HK2, HO_0, HO_5, HB⟩ := hrel
          cases gk with
          | zero => exact absurd HA.out (by simp [spec_ServeAll.l0])
          | succ k2 =>
            have H := HA.out
            clear HA
            simp only [spec_ServeAll.l0] at H
            replace H := Option.bind_eq_some_iff.mp H
            obtain ⟨t213, A100, H⟩ := H
            replace H : (if t213 ≥ 0 then ((spec_ServeUser.f k2 x0_2 a1).bind fun bt214 => (if x5_2.length < 17592186044416 then (spec_ServeAll.l0 k2 bt214.1 a1 (x5_2 ++ [bt214.2.1])) else (none))) else (some x5_2)) = some r := H
            have A10 := Aside0.mk A100
            clear A100
            by_cases c11 : t213 ≥ 0
            · rw [if_pos c11] at H
              have c11b0 : decide (0 ≤ t213) = true := decide_eq_true c11
              clear c11
              replace H := Option.bind_eq_some_iff.mp H
              obtain ⟨⟨t214, t215, t216⟩, A120, H⟩ := H
              replace H : (if x5_2.length < 17592186044416 then (spec_ServeAll.l0 k2 t214 a1 (x5_2 ++ [t215])) else (none)) = some r := H
              have A12 := Aside0.mk A120
              clear A120
              by_cases c13 : x5_2.length < 17592186044416
              · rw [if_pos c13] at H
                have LMc13 := Aside0.mk c13
                clear c13
                obtain ⟨y219, hy219⟩ : ∃ y_ : List Int, y_ = (x5_2 ++ [t215]) := ⟨_, rfl⟩
                replace H : (spec_ServeAll.l0 k2 t214 a1 y219) = some r := by first | (rw [hy219]; with_reducible exact H) | (have H2_ := (Option.bind_some _ _).symm.trans H; rw [hy219]; with_reducible exact H2_) | (have H2_ := (Option.bind_some _ _).symm.trans H; with_reducible exact H2_) | with_reducible exact H | (rw [hy219]; exact H) | exact H
                have Ny219 := Aside0.mk hy219
                clear hy219
                have H' := Aside0.mk H
                clear H
                obtain ⟨Ao14, co14, eo14⟩ := Kd.V_slice HO_0.out
                subst eo14
                go_wp2_with (first | ((with_reducible refine gate_callee (f := 31) rfl ?_); refine goesL_ (some 19) rfl rfl Try.func31 (by kernel_rfl) rfl #[.slice Ao14 x0_2.length co14] rfl (by (try simp only [List.map_toArray, List.map_cons, List.map_nil]); first | done | rfl | (simp only [List.length_drop, List.length_take]; rfl)) ?_; (with_reducible refine (spec_next.calls k2 _ _ x0_2 t213 _ ?side1 ?side2 A10.out).mono ?_); (case side1 => repeat (first | exact (Kd.V_reads' HO_0.out).2.2 | (with_reducible refine Kd.C_alloc ?_ _) | (with_reducible refine Kd.C_drewN ?_ _) | (with_reducible refine Kd.C_drew ?_))); (case side2 => exact (Kd.V_reads' HO_0.out).2.1); rintro e w15 ⟨rfl, hb⟩; refine ⟨_, rfl, ?_⟩; have n0_ := Aside0.mk (Kd.V_below (by (with_reducible repeat (first | apply Kd.V_alloc | apply Kd.V_drewN | apply Kd.V_drew)); exact HO_0.out) hb); have n1_ := Aside0.mk (Kd.R_below (by (with_reducible repeat (first | apply Kd.R_alloc | apply Kd.R_drewN | apply Kd.R_drew)); exact HO_5.out) hb); have n2_ := Aside0.mk (below_step (by repeat (first | (with_reducible first | exact HB.out | apply below_alloc | apply pw_below_drewN | apply below_drew1) | exact HB.out)) hb); clear HO_0; clear HO_5; clear HB; have HO_0 := n0_; have HO_5 := n1_; have HB := n2_; clear n0_ n1_ n2_; (try clear hb); (try clear hb2); (try clear hk); (try clear hi)) | ((with_reducible refine gate_callee (f := 15) rfl ?_); refine goesL_ (some 24) rfl rfl Try.func15 (by kernel_rfl) rfl #[.slice Ao14 x0_2.length co14, .int .i64 a1] rfl (by (try simp only [List.map_toArray, List.map_cons, List.map_nil]); first | done | rfl | (simp only [List.length_drop, List.length_take]; rfl)) ?_; (with_reducible refine (spec_ServeUser.calls k2 _ _ x0_2 a1 t214 t215 t216 _ ?side1 ?side2 A12.out).mono ?_); (case side1 => repeat (first | exact (Kd.V_reads' HO_0.out).2.2 | (with_reducible refine Kd.C_alloc ?_ _) | (with_reducible refine Kd.C_drewN ?_ _) | (with_reducible refine Kd.C_drew ?_))); (case side2 => exact (Kd.V_reads' HO_0.out).2.1); rintro e w16 ⟨v217, rfl, ho0, hb⟩; refine ⟨_, rfl, ?_⟩; have n0_ := Aside0.mk (Kd.V_elder' (by (with_reducible repeat (first | apply Kd.V_alloc | apply Kd.V_drewN | apply Kd.V_drew)); exact HO_0.out) (Kd.R_base ho0) hb); have n1_ := Aside0.mk (Kd.R_below (by (with_reducible repeat (first | apply Kd.R_alloc | apply Kd.R_drewN | apply Kd.R_drew)); exact HO_5.out) hb); have n2_ := Aside0.mk (Kd.R_lower (Kd.R_newM (M := fun k_ => (w.heap.size ≤ k_)) ho0 (below_size (by repeat (first | (with_reducible first | exact HB.out | apply below_alloc | apply pw_below_drewN | apply below_drew1) | exact HB.out))) (fun k_ h_ => h_)) (below_size (by repeat (first | (with_reducible first | exact HB.out | apply below_alloc | apply pw_below_drewN | apply below_drew1) | exact HB.out)))); have n3_ := Aside0.mk (below_step (by repeat (first | (with_reducible first | exact HB.out | apply below_alloc | apply pw_below_drewN | apply below_drew1) | exact HB.out)) hb); clear HO_0; clear HO_5; clear HB; have HO_0 := n0_; have HO_5 := n1_; have HO218 := n2_; have HB := n3_; clear n0_ n1_ n2_ n3_; (try clear hb); (try clear hb2); (try clear hk); (try clear hi); (try clear ho0)) | ((with_reducible refine gate_builtin (b := .append) (xs := #[.tmp 29, .tmp 31]) rfl ?_); at_builtin; refine Kd.R_append (Kd.int .i64) (w0 := w) w.heap.size rfl (.tmp 29) (.tmp 31) 26 3 (.int .i64 0) 8 rfl Try.underlying26 info3 rfl (by decide) (by omega) u5 x5_2 t215 [.int .i64 t215] (fun k_ => (w.heap.size ≤ k_)) (fun _ => False) rfl rfl ?aP (fun _ hk => hk.elim) ?aF ?aO ?aB ?aS ?aL ?_; (case aP => exact rfl); (case aB => exact (by repeat (first | (with_reducible first | exact HB.out | apply below_alloc | apply pw_below_drewN | apply below_drew1) | exact HB.out))); (case aF => exact (fun k_ hk => (Nat.le_trans (below_size (by repeat (first | (with_reducible first | exact HB.out | apply below_alloc | apply pw_below_drewN | apply below_drew1) | exact HB.out))) hk))); (case aO => exact (by (with_reducible repeat (first | apply Kd.R_alloc | apply Kd.R_drewN | apply Kd.R_drew)); exact HO_5.out)); (case aS => exact (below_size (by repeat (first | (with_reducible first | exact HB.out | apply below_alloc | apply pw_below_drewN | apply below_drew1) | exact HB.out)))); (case aL => have := LMc13.out; omega); intro v220 w17 ho hb hg hat; rw [← Ny219.out] at ho; have n0_ := Aside0.mk (Kd.V_afterv (ok := (fun k_ => (P0_ k_ ∨ w.heap.size ≤ k_) ∧ some k_ ≠ (v217 : Value).ownBlock)) (by (with_reducible repeat (first | apply Kd.V_alloc | apply Kd.V_drewN | apply Kd.V_drew)); exact Kd.V_mono HO_0.out (fun _ hk => ⟨⟨hk.1.1, hk.2⟩, hk.1.2⟩)) hg hat); have n1_ := Aside0.mk (Kd.R_over' (by (with_reducible repeat (first | apply Kd.R_alloc | apply Kd.R_drewN | apply Kd.R_drew)); exact HO218.out) (Kd.R_typed (by (with_reducible repeat (first | apply Kd.R_alloc | apply Kd.R_drewN | apply Kd.R_drew)); exact HO_5.out)) (by decide) hg); have n2_ := Aside0.mk (hb); have n3_ := Aside0.mk (ho); clear HO_0; clear HO218; clear HB; clear HO_5; have HO_0 := n0_; have HO218 := n1_; have HB := n2_; have HO221 := n3_; clear n0_ n1_ n2_ n3_; clear ho hb hg hat))
                go_roundg k2
                case measure => have := HJ2.out; have := HK2.out; omega
                case rel => exact ⟨(t214), (y219), H', ⟨by have := HJ2.out; have := HK2.out; omega⟩, ⟨Kd.V_mono (Kd.R_V (by (with_reducible repeat (first | apply Kd.R_alloc | apply Kd.R_drewN | apply Kd.R_drew)); exact Kd.R_apart' HO218.out (Kd.R_typed HO221.out) (by decide))) (fun k_ hk => by first | exact ⟨(.inr (hk.1.1)), hk.2⟩ | exact ⟨(.inr (hk.1)), hk.2⟩ | exact (.inr (hk)))⟩, ⟨by (with_reducible repeat (first | apply Kd.R_alloc | apply Kd.R_drewN | apply Kd.R_drew)); exact HO221.out⟩, ⟨by repeat (first | (with_reducible first | exact HB.out | apply below_alloc | apply pw_below_drewN | apply below_drew1) | exact HB.out)⟩⟩
              · rw [if_neg c13] at H
                exact absurd H (by simp)
            · rw [if_neg c11] at H
              have c11b0 : decide (0 ≤ t213) = false := decide_eq_false c11
              clear c11
              obtain rfl := Option.some.inj H
              obtain ⟨Ao18, co18, eo18⟩ := Kd.V_slice HO_0.out
              subst eo18
              go_wp2_with (first | ((with_reducible refine gate_callee (f := 31) rfl ?_); refine goesL_ (some 19) rfl rfl Try.func31 (by kernel_rfl) rfl #[.slice Ao18 x0_2.length co18] rfl (by (try simp only [List.map_toArray, List.map_cons, List.map_nil]); first | done | rfl | (simp only [List.length_drop, List.length_take]; rfl)) ?_; (with_reducible refine (spec_next.calls k2 _ _ x0_2 t213 _ ?side1 ?side2 A10.out).mono ?_); (case side1 => repeat (first | exact (Kd.V_reads' HO_0.out).2.2 | (with_reducible refine Kd.C_alloc ?_ _) | (with_reducible refine Kd.C_drewN ?_ _) | (with_reducible refine Kd.C_drew ?_))); (case side2 => exact (Kd.V_reads' HO_0.out).2.1); rintro e w19 ⟨rfl, hb⟩; refine ⟨_, rfl, ?_⟩; have n0_ := Aside0.mk (Kd.V_below (by (with_reducible repeat (first | apply Kd.V_alloc | apply Kd.V_drewN | apply Kd.V_drew)); exact HO_0.out) hb); have n1_ := Aside0.mk (Kd.R_below (by (with_reducible repeat (first | apply Kd.R_alloc | apply Kd.R_drewN | apply Kd.R_drew)); exact HO_5.out) hb); have n2_ := Aside0.mk (below_step (by repeat (first | (with_reducible first | exact HB.out | apply below_alloc | apply pw_below_drewN | apply below_drew1) | exact HB.out)) hb); clear HO_0; clear HO_5; clear HB; have HO_0 := n0_; have HO_5 := n1_; have HB := n2_; clear n0_ n1_ n2_; (try clear hb); (try clear hb2); (try clear hk); (try clear hi)))
              go_ret
              exact ⟨_, by first | rfl | (simp [errW_none, errW_some] <;> rfl) | (simp [*, errW_none, errW_some] <;> rfl), by (with_reducible repeat (first | apply Kd.R_alloc | apply Kd.R_drewN | apply Kd.R_drew)); exact HO_5.out, by repeat (first | (with_reducible first | exact HB.out | apply below_alloc | apply pw_below_drewN | apply below_drew1) | exact HB.out)⟩

end Go.Proofs.Ytacenlcdlopjbaa.G
