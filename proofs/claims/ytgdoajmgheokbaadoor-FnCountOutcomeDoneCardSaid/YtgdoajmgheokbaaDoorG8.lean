-- SLIM
-- Written by hyb.py, a driver of this session round the print.py of the kit. Lean checks it.
import Derived.Test.YtgdoajmgheokbaaDoorWRepsOne
import Derived.Test.YtgdoajmgheokbaaDoorG0
import Derived.Test.YtgdoajmgheokbaaDoorG1
import Derived.Test.YtgdoajmgheokbaaDoorG3
import Derived.Test.YtgdoajmgheokbaaDoorG4
import Derived.Test.YtgdoajmgheokbaaDoorG5
namespace Go.Proofs.YtgdoajmgheokbaaDoor.G
open Go.RowKit Go.Proofs.YtgdoajmgheokbaaDoorW.PrintWords Go.Proofs.YtgdoajmgheokbaaDoorW.PrintLast Go.Proofs.YtgdoajmgheokbaaDoorW.PrintMore
attribute [local go_sem] max2_int min2_int max_two min_two max_three min_three max_four min_four   -- for this text's walks alone
set_option linter.unusedVariables false
set_option linter.unusedSimpArgs false

/-! ### spec_CountOutcome: function 24 -/
mutual
def spec_CountOutcome.j0 : Nat → List (S74) → List Int → Int → Int → Int → Bool → Option (Int)
 | 0, _, _, _, _, _, _ => none
 | k + 1, x0, x1, x2, x3, x9, x25 => if x25 = true then (some (-1)) else ((spec_outcome.f k x0 x1 x2).bind fun t487 => (spec_CountOutcome.l0 k x3 x9 t487 0))
def spec_CountOutcome.l0 : Nat → Int → Int → List Int → Int → Option (Int)
 | 0, _, _, _, _ => none
 | k + 1, x3, x9, x10, x11 => if x11 < (x10.length : Int) then (if 0 ≤ x11 then ((spec_toInt.f ((rd x10 x11) == x3)).bind fun t491 => (spec_CountOutcome.l0 k x3 (wrap64 (x9 + t491)) x10 (wrap64 (x11 + 1)))) else (none)) else (some x9)
end
def spec_CountOutcome.f (k : Nat) (l0 : List (S74)) (l1 : List Int) (a2 : Int) (a3 : Int) : Option (Int) := (spec_validFails.f k l0 l1).bind fun t484 => (if t484 = true then ((spec_inRange.f a2 1 8).bind fun t485 => (if t485 = true then ((spec_inRange.f a3 0 3).bind fun t486 => (spec_CountOutcome.j0 k l0 l1 a2 a3 0 (!t486))) else (spec_CountOutcome.j0 k l0 l1 a2 a3 0 true))) else (spec_CountOutcome.j0 k l0 l1 a2 a3 0 true))
set_option maxHeartbeats 8000000 in
set_option maxRecDepth 100000 in
theorem spec_CountOutcome.calls (k : Nat) (A0 : Option Addr) (c0 : Nat) (l0 : List (S74)) (A1 : Option Addr) (c1 : Nat) (l1 : List Int) (a2 : Int) (a3 : Int) (r : Int) (w : World) (hr0 : Kd.C k74 w A0 l0.length l0) (hc0 : l0.length ≤ c0) (hr1 : Kd.C (Kd.int .i64) w A1 l1.length l1) (hc1 : l1.length ≤ c1) (h : spec_CountOutcome.f k l0 l1 a2 a3 = some r) :
  Calls Tryd.prog 24 #[.slice A0 l0.length c0, .slice A1 l1.length c1, .int .i64 a2, .int .i64 a3] w fun e w' => e = .returned (.int .i64 r) ∧ Below w.heap.size w w' := by
 have HR0 := Aside0.mk hr0
 have HC0 := Aside0.mk hc0
 clear hr0 hc0
 have HR1 := Aside0.mk hr1
 have HC1 := Aside0.mk hc1
 clear hr1 hc1
 have HB := Aside0.mk (Below.refl w.heap.size w)
 have H : ((spec_validFails.f k l0 l1).bind fun t484 => (if t484 = true then ((spec_inRange.f a2 1 8).bind fun t485 => (if t485 = true then ((spec_inRange.f a3 0 3).bind fun t486 => (spec_CountOutcome.j0 k l0 l1 a2 a3 0 (!t486))) else (spec_CountOutcome.j0 k l0 l1 a2 a3 0 true))) else (spec_CountOutcome.j0 k l0 l1 a2 a3 0 true))) = some r := h
 clear h
 have HC5 := Aside0.mk H
 clear H
 go_enter Tryd.func24, Tryd.ntmps24
 go_upto_region 2 with (fail)
 go_cut [25] (fun v25 wc => ∃ (kq : Nat) (x25_4 : Bool), v25 = .bool x25_4 ∧ Aside0 (spec_CountOutcome.j0 kq l0 l1 a2 a3 0 x25_4 = some r) ∧ Aside0 (kq ≤ k) ∧ Aside0 (Below w.heap.size w wc))
 case first =>
  have H := HC5.out
  clear HC5
  replace H := Option.bind_eq_some_iff.mp H
  obtain ⟨t484, A60, H⟩ := H
  replace H : (if t484 = true then ((spec_inRange.f a2 1 8).bind fun t485 => (if t485 = true then ((spec_inRange.f a3 0 3).bind fun t486 => (spec_CountOutcome.j0 k l0 l1 a2 a3 0 (!t486))) else (spec_CountOutcome.j0 k l0 l1 a2 a3 0 true))) else (spec_CountOutcome.j0 k l0 l1 a2 a3 0 true)) = some r := H
  have A6 := Aside0.mk A60
  clear A60
  by_cases c7 : t484 = true
  ·subst c7
   have H1 : ((spec_inRange.f a2 1 8).bind fun t485 => (if t485 = true then ((spec_inRange.f a3 0 3).bind fun t486 => (spec_CountOutcome.j0 k l0 l1 a2 a3 0 (!t486))) else (spec_CountOutcome.j0 k l0 l1 a2 a3 0 true))) = some r := by rw [if_pos rfl] at H; exact H
   clear H
   have H := H1
   clear H1
   replace H := Option.bind_eq_some_iff.mp H
   obtain ⟨t485, A80, H⟩ := H
   replace H : (if t485 = true then ((spec_inRange.f a3 0 3).bind fun t486 => (spec_CountOutcome.j0 k l0 l1 a2 a3 0 (!t486))) else (spec_CountOutcome.j0 k l0 l1 a2 a3 0 true)) = some r := H
   have A8 := Aside0.mk A80
   clear A80
   by_cases c9 : t485 = true
   ·subst c9
    have H1 : ((spec_inRange.f a3 0 3).bind fun t486 => (spec_CountOutcome.j0 k l0 l1 a2 a3 0 (!t486))) = some r := by rw [if_pos rfl] at H; exact H
    clear H
    have H := H1
    clear H1
    replace H := Option.bind_eq_some_iff.mp H
    obtain ⟨t486, A100, H⟩ := H
    replace H : (spec_CountOutcome.j0 k l0 l1 a2 a3 0 (!t486)) = some r := H
    have A10 := Aside0.mk A100
    clear A100
    have H' := Aside0.mk H
    clear H
    go_wp2_with (first | ((with_reducible refine gate_callee (f := 35) rfl ?_); refine goesC_ (some 14) Tryd.func35 #[.slice A0 l0.length c0, .slice A1 l1.length c1] ?_; (with_reducible refine (spec_validFails.calls k _ _ l0 _ _ l1 true _ ?side1 ?side2 ?side3 ?side4 A6.out).mono ?_); (case side1 => exact cw_ (Kd.C_below HR0.out HB.out)); (case side2 => exact HC0.out); (case side3 => exact cw_ (Kd.C_below HR1.out HB.out)); (case side4 => exact HC1.out); rintro e w11 ⟨rfl, hb⟩; refine ⟨_, rfl, ?_⟩; have n0_ := Aside0.mk (below_step blw_ hb); clear HB; have HB := n0_; clear n0_; (try clear hb); (try clear hb2); (try clear hk); (try clear hi)) | (go_at_call 53; (with_reducible refine (spec_inRange.calls a2 1 8 true _ A8.out).mono ?_); rintro e w' ⟨rfl, ⟨nd, rfl⟩⟩) | (go_at_call 53; (with_reducible refine (spec_inRange.calls a3 0 3 t486 _ A10.out).mono ?_); rintro e w' ⟨rfl, ⟨nd, rfl⟩⟩))
    go_meet
    case rel => exact ⟨_, (!t486), (by first | rfl | (simp; done) | (simp [*]; done)), H', ⟨by first | omega | exact Nat.le_refl _⟩, ⟨blw_⟩⟩
   ·replace c9 := Bool.eq_false_iff.mpr c9
    subst c9
    have H1 : (spec_CountOutcome.j0 k l0 l1 a2 a3 0 true) = some r := by rw [if_neg (show ¬ (false = true) by decide)] at H; exact H
    clear H
    have H := H1
    clear H1
    have H' := Aside0.mk H
    clear H
    go_wp2_with (first | ((with_reducible refine gate_callee (f := 35) rfl ?_); refine goesC_ (some 14) Tryd.func35 #[.slice A0 l0.length c0, .slice A1 l1.length c1] ?_; (with_reducible refine (spec_validFails.calls k _ _ l0 _ _ l1 true _ ?side1 ?side2 ?side3 ?side4 A6.out).mono ?_); (case side1 => exact cw_ (Kd.C_below HR0.out HB.out)); (case side2 => exact HC0.out); (case side3 => exact cw_ (Kd.C_below HR1.out HB.out)); (case side4 => exact HC1.out); rintro e w12 ⟨rfl, hb⟩; refine ⟨_, rfl, ?_⟩; have n0_ := Aside0.mk (below_step blw_ hb); clear HB; have HB := n0_; clear n0_; (try clear hb); (try clear hb2); (try clear hk); (try clear hi)) | (go_at_call 53; (with_reducible refine (spec_inRange.calls a2 1 8 false _ A8.out).mono ?_); rintro e w' ⟨rfl, ⟨nd, rfl⟩⟩))
    go_meet
    case rel => exact ⟨_, (true), (by first | rfl | (simp; done) | (simp [*]; done)), H', ⟨by first | omega | exact Nat.le_refl _⟩, ⟨blw_⟩⟩
  ·replace c7 := Bool.eq_false_iff.mpr c7
   subst c7
   have H1 : (spec_CountOutcome.j0 k l0 l1 a2 a3 0 true) = some r := by rw [if_neg (show ¬ (false = true) by decide)] at H; exact H
   clear H
   have H := H1
   clear H1
   have H' := Aside0.mk H
   clear H
   go_wp2_with (first | ((with_reducible refine gate_callee (f := 35) rfl ?_); refine goesC_ (some 14) Tryd.func35 #[.slice A0 l0.length c0, .slice A1 l1.length c1] ?_; (with_reducible refine (spec_validFails.calls k _ _ l0 _ _ l1 false _ ?side1 ?side2 ?side3 ?side4 A6.out).mono ?_); (case side1 => exact cw_ (Kd.C_below HR0.out HB.out)); (case side2 => exact HC0.out); (case side3 => exact cw_ (Kd.C_below HR1.out HB.out)); (case side4 => exact HC1.out); rintro e w13 ⟨rfl, hb⟩; refine ⟨_, rfl, ?_⟩; have n0_ := Aside0.mk (below_step blw_ hb); clear HB; have HB := n0_; clear n0_; (try clear hb); (try clear hb2); (try clear hk); (try clear hi)))
   go_meet
   case rel => exact ⟨_, (true), (by first | rfl | (simp; done) | (simp [*]; done)), H', ⟨by first | omega | exact Nat.le_refl _⟩, ⟨blw_⟩⟩
 case rest =>
  clear HC5
  try clear c1
  try clear c2
  try clear p2
  try clear c3
  try clear c7
  try clear c9
  obtain ⟨kq, x25_4, rfl, HA, HJ4, HB⟩ := hcut
  cases kq with
  | zero => exact absurd HA.out (by simp [spec_CountOutcome.j0])
  | succ kj4 =>
   have H := HA.out
   clear HA
   simp only [spec_CountOutcome.j0] at H
   by_cases c14 : x25_4 = true
   ·subst c14
    have H1 : (some (-1)) = some r := by rw [if_pos rfl] at H; exact H
    clear H
    have H := H1
    clear H1
    obtain rfl := Option.some.inj H
    go_wp2
    go_ret
    exact ⟨by first | rfl | (simp [errW_none, errW_some] <;> rfl) | (simp [*, errW_none, errW_some] <;> rfl), blw_⟩
   ·replace c14 := Bool.eq_false_iff.mpr c14
    subst c14
    have H1 : ((spec_outcome.f kj4 l0 l1 a2).bind fun t487 => (spec_CountOutcome.l0 kj4 a3 0 t487 0)) = some r := by rw [if_neg (show ¬ (false = true) by decide)] at H; exact H
    clear H
    have H := H1
    clear H1
    replace H := Option.bind_eq_some_iff.mp H
    obtain ⟨t487, A150, H⟩ := H
    replace H : (spec_CountOutcome.l0 kj4 a3 0 t487 0) = some r := H
    have A15 := Aside0.mk A150
    clear A150
    have H' := Aside0.mk H
    clear H
    go_wp2_with (first | ((with_reducible refine gate_callee (f := 54) rfl ?_); refine goesC_ (some 29) Tryd.func54 #[.slice A0 l0.length c0, .slice A1 l1.length c1, .int .i64 a2] ?_; (with_reducible refine (spec_outcome.calls kj4 _ _ l0 _ _ l1 a2 t487 _ ?side1 ?side2 ?side3 ?side4 A15.out).mono ?_); (case side1 => exact cw_ (Kd.C_below HR0.out HB.out)); (case side2 => exact HC0.out); (case side3 => exact cw_ (Kd.C_below HR1.out HB.out)); (case side4 => exact HC1.out); rintro e w16 ⟨v488, rfl, ho0, hb⟩; refine ⟨_, rfl, ?_⟩; have n0_ := Aside0.mk (Kd.R_lower ho0 (below_size blw_)); have n1_ := Aside0.mk (below_step blw_ hb); clear HB; have HO489 := n0_; have HB := n1_; clear n0_ n1_; (try clear hb); (try clear hb2); (try clear hk); (try clear hi); (try clear ho0)))
    go_loopg [9, 11] kj4 (fun kq v9 v11 w' => ∃ (x9_2 : Int) (x11_2 : Int), v9 = .int .i64 x9_2 ∧ v11 = .int .i64 x11_2 ∧ Aside0 (spec_CountOutcome.l0 kq a3 x9_2 t487 x11_2 = some r) ∧ Aside0 (kq ≤ kj4) ∧ Aside0 (Kd.R (Kd.int .i64) 3 w' w.heap.size (fun _ => True) v488 t487) ∧ Aside0 (Below w.heap.size w w'))
    case atStart => exact ⟨(0), (0), (by first | rfl | (simp; done) | (simp [*]; done)), (by first | rfl | (simp; done) | (simp [*]; done)), H', ⟨Nat.le_refl _⟩, ⟨rw_ HO489.out⟩, ⟨blw_⟩⟩
    case round =>
     clear H'
     try clear c1
     try clear c2
     try clear p2
     try clear c3
     try clear c5
     try clear c7
     try clear c9
     try clear c14
     try clear p2
     obtain ⟨x9_2, x11_2, rfl, rfl, HA, HK2, HO_10, HB⟩ := hrel
     cases gk with
     | zero => exact absurd HA.out (by simp [spec_CountOutcome.l0])
     | succ k2 =>
      have H := HA.out
      clear HA
      simp only [spec_CountOutcome.l0] at H
      by_cases c17 : x11_2 < (t487.length : Int)
      ·rw [if_pos c17] at H
       have c17b0 : decide (x11_2 < (t487.length : Int)) = true := decide_eq_true c17
       clear c17
       by_cases c18 : 0 ≤ x11_2
       ·rw [if_pos c18] at H
        have c18b0 : decide (0 ≤ x11_2) = true := decide_eq_true c18
        clear c18
        replace H := Option.bind_eq_some_iff.mp H
        obtain ⟨t491, A190, H⟩ := H
        replace H : (spec_CountOutcome.l0 k2 a3 (wrap64 (x9_2 + t491)) t487 (wrap64 (x11_2 + 1))) = some r := H
        have A19 := Aside0.mk A190
        clear A190
        have H' := Aside0.mk H
        clear H
        obtain ⟨Ao20, co20, eo20⟩ := Kd.R_slice HO_10.out
        subst eo20
        have p490 : 0 ≤ (x11_2 : Int) := of_decide_eq_true (by first | (with_reducible assumption) | assumption)
        have q490 : x11_2 < (t487.length : Int) := of_decide_eq_true (by first | (with_reducible assumption) | assumption)
        obtain ⟨ad490, e490, hx490_0⟩ := Kd.at_int (Kd.R_reads' HO_10.out).2.2 x11_2 p490 q490
        cases e490
        replace p490 := eq_true p490
        replace q490 := eq_true q490
        go_wp2_with (first | ((with_reducible refine gate_callee (f := 56) rfl ?_); refine goesC_ (some 43) Tryd.func56 #[.bool ((rd t487 x11_2) == a3)] ?_; (with_reducible refine (spec_toInt.calls ((rd t487 x11_2) == a3) t491 _ A19.out).mono ?_); rintro e w' ⟨rfl, ⟨nd, rfl⟩⟩; refine ⟨_, rfl, ?_⟩))
        go_roundg k2
        case measure => have := HJ4.out; have := HK2.out; omega
        case rel => exact ⟨(wrap64 (x9_2 + t491)), (wrap64 (x11_2 + 1)), (by first | rfl | (simp; done) | (simp [*]; done)), (by first | rfl | (simp; done) | (simp [*]; done)), H', ⟨by have := HJ4.out; have := HK2.out; omega⟩, ⟨rw_ HO_10.out⟩, ⟨blw_⟩⟩
       ·rw [if_neg c18] at H
        exact absurd H (by simp)
      ·rw [if_neg c17] at H
       have c17b0 : decide (x11_2 < (t487.length : Int)) = false := decide_eq_false c17
       clear c17
       obtain rfl := Option.some.inj H
       obtain ⟨Ao21, co21, eo21⟩ := Kd.R_slice HO_10.out
       subst eo21
       go_wp2
       go_ret
       exact ⟨by first | rfl | (simp [errW_none, errW_some] <;> rfl) | (simp [*, errW_none, errW_some] <;> rfl), blw_⟩

end Go.Proofs.YtgdoajmgheokbaaDoor.G
