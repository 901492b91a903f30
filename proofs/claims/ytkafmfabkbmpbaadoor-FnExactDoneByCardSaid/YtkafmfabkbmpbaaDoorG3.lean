-- SLIM
-- Written by hyb.py, a driver of this session round the print.py of the kit. Lean checks it.
import Derived.Test.YtkafmfabkbmpbaaDoorWRepsOne
import Derived.Test.YtkafmfabkbmpbaaDoorWTab
import Derived.Test.YtkafmfabkbmpbaaDoorG0
import Derived.Test.YtkafmfabkbmpbaaDoorG1
import Derived.Test.YtkafmfabkbmpbaaDoorG2
namespace Go.Proofs.YtkafmfabkbmpbaaDoor.G
open Go.RowKit Go.Proofs.YtkafmfabkbmpbaaDoorW.PrintWords Go.Proofs.YtkafmfabkbmpbaaDoorW.PrintLast Go.Proofs.YtkafmfabkbmpbaaDoorW.PrintMore
attribute [local go_sem] max2_int min2_int max_two min_two max_three min_three max_four min_four   -- for this text's walks alone
set_option linter.unusedVariables false
set_option linter.unusedSimpArgs false

/-! ### spec_validLog: function 27 -/
mutual
def spec_validLog.j0 : Nat → List (S47) → List (S46) → Bool → Option (Bool)
 | 0, _, _, _ => none
 | k + 1, x0, x1, x13 => if x13 = true then (some false) else (spec_validLog.l0 k x0 x1 0)
def spec_validLog.l0 : Nat → List (S47) → List (S46) → Int → Option (Bool)
 | 0, _, _, _ => none
 | k + 1, x0, x1, x5 => if x5 < (x1.length : Int) then (if 0 ≤ x5 then ((spec_inRange.f ((rd_T46 x1 x5).f0) 0 200).bind fun t179 => (if t179 = true then (if x5 > 0 then (if 0 ≤ (wrap64 (x5 - 1)) then (if (wrap64 (x5 - 1)) < (x1.length : Int) then (if ((rd_T46 x1 x5).f0) < ((rd_T46 x1 (wrap64 (x5 - 1))).f0) then (some false) else ((spec_inRange.f ((rd_T46 x1 x5).f1) 0 (wrap64 ((x0.length : Int) - 1))).bind fun t183 => (if t183 = true then ((spec_eventFits.f k x0 x1 x5).bind fun t184 => (if t184 = true then (spec_validLog.l0 k x0 x1 (wrap64 (x5 + 1))) else (some false))) else (some false)))) else (none)) else (none)) else ((spec_inRange.f ((rd_T46 x1 x5).f1) 0 (wrap64 ((x0.length : Int) - 1))).bind fun t186 => (if t186 = true then ((spec_eventFits.f k x0 x1 x5).bind fun t187 => (if t187 = true then (spec_validLog.l0 k x0 x1 (wrap64 (x5 + 1))) else (some false))) else (some false)))) else (some false))) else (none)) else (some true)
end
def spec_validLog.f (k : Nat) (l0 : List (S47)) (l1 : List (S46)) : Option (Bool) := (spec_validGraph.f k l0).bind fun t177 => (if t177 = true then (spec_validLog.j0 k l0 l1 (decide ((l1.length : Int) > 16))) else (spec_validLog.j0 k l0 l1 true))
def spec_validLog.T6 : Bool × List (List Nat × List Nat) := (true, [([], []), ([], []), ([0, 1], [0, 1]), ([2], [2]), ([3], [3]), ([4], [4]), ([5], [5]), ([6, 5], [6]), ([7], [7]), ([8, 7], [7, 8]), ([9, 7, 7], [7, 9]), ([10], [10]), ([10], [10]), ([11, 12, 10], [10, 11, 12]), ([13, 10], [10, 13]), ([14, 10], [10, 14]), ([10], [10]), ([10], [10]), ([17, 10], [10, 17]), ([16, 18, 10], [10, 16, 18]), ([19, 10], [10, 19]), ([20, 10], [10, 20]), ([15, 21, 10], [10, 15, 21]), ([10, 22, 7], [7, 10, 22]), ([7, 23], [7, 23]), ([24, 10], [24]), ([25], [25]), ([25], [25]), ([26, 27, 25], [25, 26, 27]), ([28, 25], [25, 28]), ([29, 25], [25, 29]), ([25], [25]), ([31, 25], [25, 31]), ([32, 25], [25, 32]), ([30, 33, 25, 25], [25, 30, 33]), ([34, 25], [25, 34]), ([25, 35], [25, 35]), ([36, 34], [36]), ([37], [37]), ([37], [37]), ([37], [37]), ([38, 39, 40, 37, 37], [37, 38, 39, 40]), ([41, 37], [37, 41]), ([37, 42], [37, 42])])
def spec_validLog.B6 : List Nat := [0, 0, 3, 7, 15, 31, 63, 127, 255, 511, 1023, 2047, 2047, 8191, 16383, 32767, 2047, 2047, 133119, 460799, 985087, 2033663, 4194303, 8388607, 16777215, 33554431, 67108863, 67108863, 268435455, 536870911, 1073741823, 67108863, 2214592511, 6509559807, 17179869183, 34359738367, 68719476735, 137438953471, 274877906943, 274877906943, 274877906943, 2199023255551, 4398046511103, 8796093022207]
theorem spec_validLog.tab6 : rtab .any (opsOf Tryd.f27 6) = spec_validLog.T6 := by kernel_rfl
theorem spec_validLog.bits6 : waitsOk spec_validLog.T6.2 spec_validLog.B6 = true := by kernel_rfl
set_option maxHeartbeats 8000000 in
set_option maxRecDepth 100000 in
theorem spec_validLog.calls (k : Nat) (A0 : Option Addr) (c0 : Nat) (l0 : List (S47)) (A1 : Option Addr) (c1 : Nat) (l1 : List (S46)) (r : Bool) (w : World) (hr0 : Kd.C k47 w A0 l0.length l0) (hc0 : l0.length ≤ c0) (hr1 : Kd.C k46 w A1 l1.length l1) (hc1 : l1.length ≤ c1) (h : spec_validLog.f k l0 l1 = some r) :
  Calls Tryd.prog 27 #[.slice A0 l0.length c0, .slice A1 l1.length c1] w fun e w' => e = .returned (.bool r) ∧ Below w.heap.size w w' := by
 have HR0 := Aside0.mk hr0
 have HC0 := Aside0.mk hc0
 clear hr0 hc0
 have HR1 := Aside0.mk hr1
 have HC1 := Aside0.mk hc1
 clear hr1 hc1
 have HB := Aside0.mk (Below.refl w.heap.size w)
 have H : ((spec_validGraph.f k l0).bind fun t177 => (if t177 = true then (spec_validLog.j0 k l0 l1 (decide ((l1.length : Int) > 16))) else (spec_validLog.j0 k l0 l1 true))) = some r := h
 clear h
 have HC3 := Aside0.mk H
 clear H
 go_enter Tryd.func27, Tryd.ntmps27
 go_upto_region 1 with (fail)
 go_cut [13] (fun v13 wc => ∃ (kq : Nat) (x13_2 : Bool), v13 = .bool x13_2 ∧ Aside0 (spec_validLog.j0 kq l0 l1 x13_2 = some r) ∧ Aside0 (kq ≤ k) ∧ Aside0 (Below w.heap.size w wc))
 case first =>
  have H := HC3.out
  clear HC3
  replace H := Option.bind_eq_some_iff.mp H
  obtain ⟨t177, A40, H⟩ := H
  replace H : (if t177 = true then (spec_validLog.j0 k l0 l1 (decide ((l1.length : Int) > 16))) else (spec_validLog.j0 k l0 l1 true)) = some r := H
  have A4 := Aside0.mk A40
  clear A40
  by_cases c5 : t177 = true
  ·subst c5
   have H1 : (spec_validLog.j0 k l0 l1 (decide ((l1.length : Int) > 16))) = some r := by rw [if_pos rfl] at H; exact H
   clear H
   have H := H1
   clear H1
   have H' := Aside0.mk H
   clear H
   go_wp2_with (first | ((with_reducible refine gate_callee (f := 39) rfl ?_); refine goesC_ (some 7) Tryd.func39 #[.slice A0 l0.length c0] ?_; (with_reducible refine (spec_validGraph.calls k _ _ l0 true _ ?side1 ?side2 A4.out).mono ?_); (case side1 => exact cw_ (Kd.C_below HR0.out HB.out)); (case side2 => exact HC0.out); rintro e w6 ⟨rfl, hb⟩; refine ⟨_, rfl, ?_⟩; have n0_ := Aside0.mk (below_step blw_ hb); clear HB; have HB := n0_; clear n0_; (try clear hb); (try clear hb2); (try clear hk); (try clear hi)))
   go_meet
   case rel => exact ⟨_, (decide ((l1.length : Int) > 16)), (by first | rfl | (simp; done) | (simp [*]; done)), H', ⟨by first | omega | exact Nat.le_refl _⟩, ⟨blw_⟩⟩
  ·replace c5 := Bool.eq_false_iff.mpr c5
   subst c5
   have H1 : (spec_validLog.j0 k l0 l1 true) = some r := by rw [if_neg (show ¬ (false = true) by decide)] at H; exact H
   clear H
   have H := H1
   clear H1
   have H' := Aside0.mk H
   clear H
   go_wp2_with (first | ((with_reducible refine gate_callee (f := 39) rfl ?_); refine goesC_ (some 7) Tryd.func39 #[.slice A0 l0.length c0] ?_; (with_reducible refine (spec_validGraph.calls k _ _ l0 false _ ?side1 ?side2 A4.out).mono ?_); (case side1 => exact cw_ (Kd.C_below HR0.out HB.out)); (case side2 => exact HC0.out); rintro e w7 ⟨rfl, hb⟩; refine ⟨_, rfl, ?_⟩; have n0_ := Aside0.mk (below_step blw_ hb); clear HB; have HB := n0_; clear n0_; (try clear hb); (try clear hb2); (try clear hk); (try clear hi)))
   go_meet
   case rel => exact ⟨_, (true), (by first | rfl | (simp; done) | (simp [*]; done)), H', ⟨by first | omega | exact Nat.le_refl _⟩, ⟨blw_⟩⟩
 case rest =>
  clear HC3
  try clear c1
  try clear c2
  try clear p2
  try clear c3
  try clear c5
  obtain ⟨kq, x13_2, rfl, HA, HJ2, HB⟩ := hcut
  cases kq with
  | zero => exact absurd HA.out (by simp [spec_validLog.j0])
  | succ kj2 =>
   have H := HA.out
   clear HA
   simp only [spec_validLog.j0] at H
   by_cases c8 : x13_2 = true
   ·subst c8
    have H1 : (some false) = some r := by rw [if_pos rfl] at H; exact H
    clear H
    have H := H1
    clear H1
    obtain rfl := Option.some.inj H
    go_wp2
    go_ret
    exact ⟨by first | rfl | (simp [errW_none, errW_some] <;> rfl) | (simp [*, errW_none, errW_some] <;> rfl), blw_⟩
   ·replace c8 := Bool.eq_false_iff.mpr c8
    subst c8
    have H1 : (spec_validLog.l0 kj2 l0 l1 0) = some r := by rw [if_neg (show ¬ (false = true) by decide)] at H; exact H
    clear H
    have H := H1
    clear H1
    have H' := Aside0.mk H
    clear H
    go_wp2
    go_loopg [5] kj2 (fun kq v5 w' => ∃ (x5_2 : Int), v5 = .int .i64 x5_2 ∧ Aside0 (spec_validLog.l0 kq l0 l1 x5_2 = some r) ∧ Aside0 (kq ≤ kj2) ∧ Aside0 (Below w.heap.size w w'))
    case atStart => exact ⟨(0), (by first | rfl | (simp; done) | (simp [*]; done)), H', ⟨Nat.le_refl _⟩, ⟨blw_⟩⟩
    case round =>
     clear H'
     try clear c1
     try clear c2
     try clear p2
     try clear c3
     try clear c5
     try clear c8
     try clear p2
     obtain ⟨x5_2, rfl, HA, HK2, HB⟩ := hrel
     cases gk with
     | zero => exact absurd HA.out (by simp [spec_validLog.l0])
     | succ k2 =>
      have H := HA.out
      clear HA
      simp only [spec_validLog.l0] at H
      by_cases c9 : x5_2 < (l1.length : Int)
      ·rw [if_pos c9] at H
       have c9b0 : decide (x5_2 < (l1.length : Int)) = true := decide_eq_true c9
       clear c9
       by_cases c10 : 0 ≤ x5_2
       ·rw [if_pos c10] at H
        have c10b0 : decide (0 ≤ x5_2) = true := decide_eq_true c10
        clear c10
        replace H := Option.bind_eq_some_iff.mp H
        obtain ⟨t179, A110, H⟩ := H
        replace H : (if t179 = true then (if x5_2 > 0 then (if 0 ≤ (wrap64 (x5_2 - 1)) then (if (wrap64 (x5_2 - 1)) < (l1.length : Int) then (if ((rd_T46 l1 x5_2).f0) < ((rd_T46 l1 (wrap64 (x5_2 - 1))).f0) then (some false) else ((spec_inRange.f ((rd_T46 l1 x5_2).f1) 0 (wrap64 ((l0.length : Int) - 1))).bind fun t183 => (if t183 = true then ((spec_eventFits.f k2 l0 l1 x5_2).bind fun t184 => (if t184 = true then (spec_validLog.l0 k2 l0 l1 (wrap64 (x5_2 + 1))) else (some false))) else (some false)))) else (none)) else (none)) else ((spec_inRange.f ((rd_T46 l1 x5_2).f1) 0 (wrap64 ((l0.length : Int) - 1))).bind fun t186 => (if t186 = true then ((spec_eventFits.f k2 l0 l1 x5_2).bind fun t187 => (if t187 = true then (spec_validLog.l0 k2 l0 l1 (wrap64 (x5_2 + 1))) else (some false))) else (some false)))) else (some false)) = some r := H
        have A11 := Aside0.mk A110
        clear A110
        by_cases c12 : t179 = true
        ·subst c12
         have H1 : (if x5_2 > 0 then (if 0 ≤ (wrap64 (x5_2 - 1)) then (if (wrap64 (x5_2 - 1)) < (l1.length : Int) then (if ((rd_T46 l1 x5_2).f0) < ((rd_T46 l1 (wrap64 (x5_2 - 1))).f0) then (some false) else ((spec_inRange.f ((rd_T46 l1 x5_2).f1) 0 (wrap64 ((l0.length : Int) - 1))).bind fun t183 => (if t183 = true then ((spec_eventFits.f k2 l0 l1 x5_2).bind fun t184 => (if t184 = true then (spec_validLog.l0 k2 l0 l1 (wrap64 (x5_2 + 1))) else (some false))) else (some false)))) else (none)) else (none)) else ((spec_inRange.f ((rd_T46 l1 x5_2).f1) 0 (wrap64 ((l0.length : Int) - 1))).bind fun t186 => (if t186 = true then ((spec_eventFits.f k2 l0 l1 x5_2).bind fun t187 => (if t187 = true then (spec_validLog.l0 k2 l0 l1 (wrap64 (x5_2 + 1))) else (some false))) else (some false)))) = some r := by rw [if_pos rfl] at H; exact H
         clear H
         have H := H1
         clear H1
         by_cases c13 : x5_2 > 0
         ·rw [if_pos c13] at H
          have c13b0 : decide (0 < x5_2) = true := decide_eq_true c13
          clear c13
          obtain ⟨ji14, hji14⟩ : ∃ j_ : Int, (wrap64 (x5_2 - 1)) = j_ := ⟨_, rfl⟩
          replace H : (if 0 ≤ (ji14) then (if (ji14) < (l1.length : Int) then (if ((rd_T46 l1 x5_2).f0) < ((rd_T46 l1 (ji14)).f0) then (some false) else ((spec_inRange.f ((rd_T46 l1 x5_2).f1) 0 (wrap64 ((l0.length : Int) - 1))).bind fun t183 => (if t183 = true then ((spec_eventFits.f k2 l0 l1 x5_2).bind fun t184 => (if t184 = true then (spec_validLog.l0 k2 l0 l1 (wrap64 (x5_2 + 1))) else (some false))) else (some false)))) else (none)) else (none)) = some r := by first | (rw [hji14] at H; exact H) | (simp only [hji14] at H ⊢; exact H)
          (try rw [hji14] at A11)
          have hji14w : (IntKind.i64.wrap (x5_2 - 1)) = ji14 := (i64_w _).trans hji14
          by_cases c15 : 0 ≤ (ji14)
          ·rw [if_pos c15] at H
           have c15b0 : decide (0 ≤ (ji14)) = true := decide_eq_true c15
           clear c15
           by_cases c16 : (ji14) < (l1.length : Int)
           ·rw [if_pos c16] at H
            have c16b0 : decide ((ji14) < (l1.length : Int)) = true := decide_eq_true c16
            clear c16
            by_cases c17 : ((rd_T46 l1 x5_2).f0) < ((rd_T46 l1 (ji14)).f0)
            ·rw [if_pos c17] at H
             have c17b0 : decide (((rd_T46 l1 x5_2).f0) < ((rd_T46 l1 (ji14)).f0)) = true := decide_eq_true c17
             clear c17
             obtain rfl := Option.some.inj H
             try go_wp2
             have n0_ := Aside0.mk (below_drew1 HB.out)
             clear HB
             have HB := n0_
             clear n0_
             have p178 : 0 ≤ (x5_2 : Int) := of_decide_eq_true (by first | (with_reducible assumption) | assumption)
             have q178 : x5_2 < (l1.length : Int) := of_decide_eq_true (by first | (with_reducible assumption) | assumption)
             obtain ⟨ad178, e178, hx178_0, hx178_1, hx178_2⟩ := at_T46 HR1.out x5_2 p178 q178
             have hw178_2 := hx178_2
             have hw178_1 := hx178_1
             have hw178_0 := hx178_0
             cases e178
             replace hx178_0 := (HB.out.cell (World.block_lt_of_cell? w _ hx178_0)).trans hx178_0
             replace hx178_1 := (HB.out.cell (World.block_lt_of_cell? w _ hx178_1)).trans hx178_1
             replace hx178_2 := (HB.out.cell (World.block_lt_of_cell? w _ hx178_2)).trans hx178_2
             replace p178 := eq_true p178
             replace q178 := eq_true q178
             have p180 : 0 ≤ (x5_2 : Int) := of_decide_eq_true (by first | (with_reducible assumption) | assumption)
             have q180 : x5_2 < (l1.length : Int) := of_decide_eq_true (by first | (with_reducible assumption) | assumption)
             obtain ⟨ad180, e180, hx180_0, hx180_1, hx180_2⟩ := at_T46 HR1.out x5_2 p180 q180
             have hw180_2 := hx180_2
             have hw180_1 := hx180_1
             have hw180_0 := hx180_0
             obtain rfl : ad178 = ad180 := (by injection e180)
             replace hx180_0 := (HB.out.cell (World.block_lt_of_cell? w _ hx180_0)).trans hx180_0
             replace hx180_1 := (HB.out.cell (World.block_lt_of_cell? w _ hx180_1)).trans hx180_1
             replace hx180_2 := (HB.out.cell (World.block_lt_of_cell? w _ hx180_2)).trans hx180_2
             replace p180 := eq_true p180
             replace q180 := eq_true q180
             have p181 : 0 ≤ ((ji14) : Int) := of_decide_eq_true (by first | (with_reducible assumption) | assumption)
             have q181 : (ji14) < (l1.length : Int) := of_decide_eq_true (by first | (with_reducible assumption) | assumption)
             obtain ⟨ad181, e181, hx181_0, hx181_1, hx181_2⟩ := at_T46 HR1.out (ji14) p181 q181
             have hw181_2 := hx181_2
             have hw181_1 := hx181_1
             have hw181_0 := hx181_0
             obtain rfl : ad178 = ad181 := (by injection e181)
             replace hx181_0 := (HB.out.cell (World.block_lt_of_cell? w _ hx181_0)).trans hx181_0
             replace hx181_1 := (HB.out.cell (World.block_lt_of_cell? w _ hx181_1)).trans hx181_1
             replace hx181_2 := (HB.out.cell (World.block_lt_of_cell? w _ hx181_2)).trans hx181_2
             replace p181 := eq_true p181
             replace q181 := eq_true q181
             refine start_ (n := 44) (S := fun w' => w'.cell? (ad178.add ((x5_2).toNat * 3)) = some (.int .i64 ((rd_T46 l1 x5_2).f0)) ∧ w'.cell? ⟨(ad178.add ((x5_2).toNat * 3)).block, (ad178.add ((x5_2).toNat * 3)).off + 1, none⟩ = some (.int .i64 ((rd_T46 l1 x5_2).f1)) ∧ w'.cell? ⟨(ad178.add ((x5_2).toNat * 3)).block, (ad178.add ((x5_2).toNat * 3)).off + 2, none⟩ = some (.bool ((rd_T46 l1 x5_2).f2)) ∧ w'.cell? (ad178.add ((x5_2).toNat * 3)) = some (.int .i64 ((rd_T46 l1 x5_2).f0)) ∧ w'.cell? ⟨(ad178.add ((x5_2).toNat * 3)).block, (ad178.add ((x5_2).toNat * 3)).off + 1, none⟩ = some (.int .i64 ((rd_T46 l1 x5_2).f1)) ∧ w'.cell? ⟨(ad178.add ((x5_2).toNat * 3)).block, (ad178.add ((x5_2).toNat * 3)).off + 2, none⟩ = some (.bool ((rd_T46 l1 x5_2).f2)) ∧ w'.cell? (ad178.add (((ji14)).toNat * 3)) = some (.int .i64 ((rd_T46 l1 (ji14)).f0)) ∧ w'.cell? ⟨(ad178.add (((ji14)).toNat * 3)).block, (ad178.add (((ji14)).toNat * 3)).off + 1, none⟩ = some (.int .i64 ((rd_T46 l1 (ji14)).f1)) ∧ w'.cell? ⟨(ad178.add (((ji14)).toNat * 3)).block, (ad178.add (((ji14)).toNat * 3)).off + 2, none⟩ = some (.bool ((rd_T46 l1 (ji14)).f2))) (ds := []) (bs 44 0) (by kernel_rfl) rfl (by kernel_rfl) ⟨((HB.out.cell (World.block_lt_of_cell? w _ hw178_0)).trans hw178_0), ((HB.out.cell (World.block_lt_of_cell? w _ hw178_1)).trans hw178_1), ((HB.out.cell (World.block_lt_of_cell? w _ hw178_2)).trans hw178_2), ((HB.out.cell (World.block_lt_of_cell? w _ hw180_0)).trans hw180_0), ((HB.out.cell (World.block_lt_of_cell? w _ hw180_1)).trans hw180_1), ((HB.out.cell (World.block_lt_of_cell? w _ hw180_2)).trans hw180_2), ((HB.out.cell (World.block_lt_of_cell? w _ hw181_0)).trans hw181_0), ((HB.out.cell (World.block_lt_of_cell? w _ hw181_1)).trans hw181_1), ((HB.out.cell (World.block_lt_of_cell? w _ hw181_2)).trans hw181_2)⟩ (fun hHeld => ?_); refine with_tabW spec_validLog.tab6 spec_validLog.bits6 (fun HT_ HW_ => ?_)
             generalize wr.drew = w18 at HB hx178_0 hx178_1 hx178_2 hx180_0 hx180_1 hx180_2 hx181_0 hx181_1 hx181_2 hHeld ⊢
             refine pT_ HT_.out 0 20 (bs 44 1) ?_
             refine pT_ HT_.out 1 21 (bs 44 3) ?_
             refine pT_ HT_.out 2 22 (bs 44 7) ?_
             refine pT_ HT_.out 3 23 (bs 44 15) ?_
             refine take_ (i := 4) (N := some 24) (v := ?_) (a' := ?_) (bs 44 31) rfl rfl (take_ofW HT_.out HW_.out (by kernel_rfl)) (fun _ _ _ h => h) (Or.inl ⟨by rfl, ?_⟩) hHeld ?_ ?_
             rotate_left
             ·rintro w' ⟨s0, s1, s2, s3, s4, s5, s6, s7, s8⟩
              go_simp
              with_reducible rfl
             rotate_left
             ·simp only [Act.put, List.setIfInBounds_toArray, List.set_cons_zero, List.set_cons_succ, i64_w, i32_w]
              rfl
             refine one_ (i := 5) (N := some 25) (bs 44 63) rfl rfl (one_of HT_.out (by kernel_rfl)) (by decide) (fun K hK => ?_)
             refine goes_ Tryd.func40 (by kernel_rfl) rfl #[.int .i64 ((rd_T46 l1 x5_2).f0), .int .i64 0, .int .i64 200] (by rfl) rfl rfl (by (try simp only [List.map_toArray, List.map_cons, List.map_nil]); first | done | rfl | (simp only [List.length_drop, List.length_take]; rfl)) ?_
             with_reducible refine (spec_inRange.calls ((rd_T46 l1 x5_2).f0) 0 200 true _ A11.out).mono ?_
             rintro e w' ⟨rfl, ⟨nd, rfl⟩⟩
             refine ⟨_, rfl, ?_⟩
             refine hK.out _ _ ⟨((HB.out.cell (World.block_lt_of_cell? w _ hw178_0)).trans hw178_0), ((HB.out.cell (World.block_lt_of_cell? w _ hw178_1)).trans hw178_1), ((HB.out.cell (World.block_lt_of_cell? w _ hw178_2)).trans hw178_2), ((HB.out.cell (World.block_lt_of_cell? w _ hw180_0)).trans hw180_0), ((HB.out.cell (World.block_lt_of_cell? w _ hw180_1)).trans hw180_1), ((HB.out.cell (World.block_lt_of_cell? w _ hw180_2)).trans hw180_2), ((HB.out.cell (World.block_lt_of_cell? w _ hw181_0)).trans hw181_0), ((HB.out.cell (World.block_lt_of_cell? w _ hw181_1)).trans hw181_1), ((HB.out.cell (World.block_lt_of_cell? w _ hw181_2)).trans hw181_2)⟩ (fun hHeld => ?_)
             clear hK K
             refine norm_ (a' := ?_) ?_ ?_
             rotate_left
             ·show Act.put _ (some 25) _ = _
              simp only [Act.put, List.setIfInBounds_toArray, List.set_cons_zero, List.set_cons_succ, i64_w, i32_w]
              rfl
             refine pT_ HT_.out 6 26 (bs 44 127) ?_
             refine pT_ HT_.out 7 27 (bs 44 255) ?_
             refine pT_ HT_.out 8 28 (bs 44 511) ?_
             refine pT_ HT_.out 9 29 (bs 44 1023) ?_
             refine pT_ HT_.out 10 30 (bs 44 2047) ?_
             refine pT_ HT_.out 11 31 (bs 44 4095) ?_
             refine pT_ HT_.out 12 32 (bs 44 8191) ?_
             refine pT_ HT_.out 13 33 (bs 44 16383) ?_
             refine pT_ HT_.out 14 34 (bs 44 32767) ?_
             refine pT_ HT_.out 16 36 (bs 44 98303) ?_
             refine pT_ HT_.out 17 37 (bs 44 229375) ?_
             refine pT_ HT_.out 18 38 (bs 44 491519) ?_
             refine pT_ HT_.out 19 39 (bs 44 1015807) ?_
             refine pT_ HT_.out 20 40 (bs 44 2064383) ?_
             refine take_ (i := 15) (N := some 35) (v := ?_) (a' := ?_) (bs 44 2097151) rfl rfl (take_ofW HT_.out HW_.out (by kernel_rfl)) (fun _ _ _ h => h) (Or.inl ⟨by rfl, ?_⟩) hHeld ?_ ?_
             rotate_left
             ·rintro w' ⟨s0, s1, s2, s3, s4, s5, s6, s7, s8⟩
              go_simp
              with_reducible rfl
             rotate_left
             ·simp only [Act.put, List.setIfInBounds_toArray, List.set_cons_zero, List.set_cons_succ, i64_w, i32_w]
              rfl
             refine take_ (i := 21) (N := some 41) (v := ?_) (a' := ?_) (bs 44 4194303) rfl rfl (take_ofW HT_.out HW_.out (by kernel_rfl)) (fun _ _ _ h => h) (Or.inl ⟨by rfl, ?_⟩) hHeld ?_ ?_
             rotate_left
             ·rintro w' ⟨s0, s1, s2, s3, s4, s5, s6, s7, s8⟩
              go_simp
              with_reducible rfl
             rotate_left
             ·simp only [Act.put, List.setIfInBounds_toArray, List.set_cons_zero, List.set_cons_succ, i64_w, i32_w]
              rfl
             refine pT_ HT_.out 22 42 (bs 44 8388607) ?_
             refine pT_ HT_.out 23 43 (bs 44 16777215) ?_
             refine pT_ HT_.out 24 44 (bs 44 33554431) ?_
             refine pT_ HT_.out 25 45 (bs 44 67108863) ?_
             refine pU_ HT_.out 26 46 (bs 44 134217727) ?_
             refine pU_ HT_.out 27 47 (bs 44 268435455) ?_
             refine pU_ HT_.out 28 48 (bs 44 536870911) ?_
             refine pU_ HT_.out 29 49 (bs 44 1073741823) ?_
             refine pU_ HT_.out 30 50 (bs 44 2147483647) ?_
             refine pU_ HT_.out 31 51 (bs 44 4294967295) ?_
             refine pU_ HT_.out 32 52 (bs 44 8589934591) ?_
             refine pU_ HT_.out 33 53 (bs 44 17179869183) ?_
             refine pU_ HT_.out 34 54 (bs 44 34359738367) ?_
             refine pU_ HT_.out 35 55 (bs 44 68719476735) ?_
             refine pT_ HT_.out 36 56 (bs 44 137438953471) ?_
             refine pT_ HT_.out 37 57 (bs 44 274877906943) ?_
             refine pU_ HT_.out 38 58 (bs 44 549755813887) ?_
             refine pU_ HT_.out 39 59 (bs 44 1099511627775) ?_
             refine pU_ HT_.out 40 60 (bs 44 2199023255551) ?_
             refine pU_ HT_.out 41 61 (bs 44 4398046511103) ?_
             refine pU_ HT_.out 42 62 (bs 44 8796093022207) ?_
             refine pT_ HT_.out 43 63 (bs 44 17592186044415) ?_
             refine done_ (done_of HT_.out (by kernel_rfl)) ?_
             try go_wp2
             go_ret
             exact ⟨by first | rfl | (simp [errW_none, errW_some] <;> rfl) | (simp only [← hji14]; first | rfl | (simp [errW_none, errW_some] <;> rfl)) | (simp [*, errW_none, errW_some] <;> rfl), blw_⟩
            ·rw [if_neg c17] at H
             have c17b0 : decide (((rd_T46 l1 x5_2).f0) < ((rd_T46 l1 (ji14)).f0)) = false := decide_eq_false c17
             clear c17
             replace H := Option.bind_eq_some_iff.mp H
             obtain ⟨t183, A190, H⟩ := H
             replace H : (if t183 = true then ((spec_eventFits.f k2 l0 l1 x5_2).bind fun t184 => (if t184 = true then (spec_validLog.l0 k2 l0 l1 (wrap64 (x5_2 + 1))) else (some false))) else (some false)) = some r := H
             have A19 := Aside0.mk A190
             clear A190
             by_cases c20 : t183 = true
             ·subst c20
              have H1 : ((spec_eventFits.f k2 l0 l1 x5_2).bind fun t184 => (if t184 = true then (spec_validLog.l0 k2 l0 l1 (wrap64 (x5_2 + 1))) else (some false))) = some r := by rw [if_pos rfl] at H; exact H
              clear H
              have H := H1
              clear H1
              replace H := Option.bind_eq_some_iff.mp H
              obtain ⟨t184, A210, H⟩ := H
              replace H : (if t184 = true then (spec_validLog.l0 k2 l0 l1 (wrap64 (x5_2 + 1))) else (some false)) = some r := H
              have A21 := Aside0.mk A210
              clear A210
              by_cases c22 : t184 = true
              ·subst c22
               have H1 : (spec_validLog.l0 k2 l0 l1 (wrap64 (x5_2 + 1))) = some r := by rw [if_pos rfl] at H; exact H
               clear H
               have H := H1
               clear H1
               have H' := Aside0.mk H
               clear H
               try go_wp2
               have n0_ := Aside0.mk (below_drew1 HB.out)
               clear HB
               have HB := n0_
               clear n0_
               have p178 : 0 ≤ (x5_2 : Int) := of_decide_eq_true (by first | (with_reducible assumption) | assumption)
               have q178 : x5_2 < (l1.length : Int) := of_decide_eq_true (by first | (with_reducible assumption) | assumption)
               obtain ⟨ad178, e178, hx178_0, hx178_1, hx178_2⟩ := at_T46 HR1.out x5_2 p178 q178
               have hw178_2 := hx178_2
               have hw178_1 := hx178_1
               have hw178_0 := hx178_0
               cases e178
               replace hx178_0 := (HB.out.cell (World.block_lt_of_cell? w _ hx178_0)).trans hx178_0
               replace hx178_1 := (HB.out.cell (World.block_lt_of_cell? w _ hx178_1)).trans hx178_1
               replace hx178_2 := (HB.out.cell (World.block_lt_of_cell? w _ hx178_2)).trans hx178_2
               replace p178 := eq_true p178
               replace q178 := eq_true q178
               have p180 : 0 ≤ (x5_2 : Int) := of_decide_eq_true (by first | (with_reducible assumption) | assumption)
               have q180 : x5_2 < (l1.length : Int) := of_decide_eq_true (by first | (with_reducible assumption) | assumption)
               obtain ⟨ad180, e180, hx180_0, hx180_1, hx180_2⟩ := at_T46 HR1.out x5_2 p180 q180
               have hw180_2 := hx180_2
               have hw180_1 := hx180_1
               have hw180_0 := hx180_0
               obtain rfl : ad178 = ad180 := (by injection e180)
               replace hx180_0 := (HB.out.cell (World.block_lt_of_cell? w _ hx180_0)).trans hx180_0
               replace hx180_1 := (HB.out.cell (World.block_lt_of_cell? w _ hx180_1)).trans hx180_1
               replace hx180_2 := (HB.out.cell (World.block_lt_of_cell? w _ hx180_2)).trans hx180_2
               replace p180 := eq_true p180
               replace q180 := eq_true q180
               have p181 : 0 ≤ ((ji14) : Int) := of_decide_eq_true (by first | (with_reducible assumption) | assumption)
               have q181 : (ji14) < (l1.length : Int) := of_decide_eq_true (by first | (with_reducible assumption) | assumption)
               obtain ⟨ad181, e181, hx181_0, hx181_1, hx181_2⟩ := at_T46 HR1.out (ji14) p181 q181
               have hw181_2 := hx181_2
               have hw181_1 := hx181_1
               have hw181_0 := hx181_0
               obtain rfl : ad178 = ad181 := (by injection e181)
               replace hx181_0 := (HB.out.cell (World.block_lt_of_cell? w _ hx181_0)).trans hx181_0
               replace hx181_1 := (HB.out.cell (World.block_lt_of_cell? w _ hx181_1)).trans hx181_1
               replace hx181_2 := (HB.out.cell (World.block_lt_of_cell? w _ hx181_2)).trans hx181_2
               replace p181 := eq_true p181
               replace q181 := eq_true q181
               have p182 : 0 ≤ (x5_2 : Int) := of_decide_eq_true (by first | (with_reducible assumption) | assumption)
               have q182 : x5_2 < (l1.length : Int) := of_decide_eq_true (by first | (with_reducible assumption) | assumption)
               obtain ⟨ad182, e182, hx182_0, hx182_1, hx182_2⟩ := at_T46 HR1.out x5_2 p182 q182
               have hw182_2 := hx182_2
               have hw182_1 := hx182_1
               have hw182_0 := hx182_0
               obtain rfl : ad178 = ad182 := (by injection e182)
               replace hx182_0 := (HB.out.cell (World.block_lt_of_cell? w _ hx182_0)).trans hx182_0
               replace hx182_1 := (HB.out.cell (World.block_lt_of_cell? w _ hx182_1)).trans hx182_1
               replace hx182_2 := (HB.out.cell (World.block_lt_of_cell? w _ hx182_2)).trans hx182_2
               replace p182 := eq_true p182
               replace q182 := eq_true q182
               refine start_ (n := 44) (S := fun w' => w'.cell? (ad178.add ((x5_2).toNat * 3)) = some (.int .i64 ((rd_T46 l1 x5_2).f0)) ∧ w'.cell? ⟨(ad178.add ((x5_2).toNat * 3)).block, (ad178.add ((x5_2).toNat * 3)).off + 1, none⟩ = some (.int .i64 ((rd_T46 l1 x5_2).f1)) ∧ w'.cell? ⟨(ad178.add ((x5_2).toNat * 3)).block, (ad178.add ((x5_2).toNat * 3)).off + 2, none⟩ = some (.bool ((rd_T46 l1 x5_2).f2)) ∧ w'.cell? (ad178.add ((x5_2).toNat * 3)) = some (.int .i64 ((rd_T46 l1 x5_2).f0)) ∧ w'.cell? ⟨(ad178.add ((x5_2).toNat * 3)).block, (ad178.add ((x5_2).toNat * 3)).off + 1, none⟩ = some (.int .i64 ((rd_T46 l1 x5_2).f1)) ∧ w'.cell? ⟨(ad178.add ((x5_2).toNat * 3)).block, (ad178.add ((x5_2).toNat * 3)).off + 2, none⟩ = some (.bool ((rd_T46 l1 x5_2).f2)) ∧ w'.cell? (ad178.add (((ji14)).toNat * 3)) = some (.int .i64 ((rd_T46 l1 (ji14)).f0)) ∧ w'.cell? ⟨(ad178.add (((ji14)).toNat * 3)).block, (ad178.add (((ji14)).toNat * 3)).off + 1, none⟩ = some (.int .i64 ((rd_T46 l1 (ji14)).f1)) ∧ w'.cell? ⟨(ad178.add (((ji14)).toNat * 3)).block, (ad178.add (((ji14)).toNat * 3)).off + 2, none⟩ = some (.bool ((rd_T46 l1 (ji14)).f2)) ∧ w'.cell? (ad178.add ((x5_2).toNat * 3)) = some (.int .i64 ((rd_T46 l1 x5_2).f0)) ∧ w'.cell? ⟨(ad178.add ((x5_2).toNat * 3)).block, (ad178.add ((x5_2).toNat * 3)).off + 1, none⟩ = some (.int .i64 ((rd_T46 l1 x5_2).f1)) ∧ w'.cell? ⟨(ad178.add ((x5_2).toNat * 3)).block, (ad178.add ((x5_2).toNat * 3)).off + 2, none⟩ = some (.bool ((rd_T46 l1 x5_2).f2))) (ds := []) (bs 44 0) (by kernel_rfl) rfl (by kernel_rfl) ⟨((HB.out.cell (World.block_lt_of_cell? w _ hw178_0)).trans hw178_0), ((HB.out.cell (World.block_lt_of_cell? w _ hw178_1)).trans hw178_1), ((HB.out.cell (World.block_lt_of_cell? w _ hw178_2)).trans hw178_2), ((HB.out.cell (World.block_lt_of_cell? w _ hw180_0)).trans hw180_0), ((HB.out.cell (World.block_lt_of_cell? w _ hw180_1)).trans hw180_1), ((HB.out.cell (World.block_lt_of_cell? w _ hw180_2)).trans hw180_2), ((HB.out.cell (World.block_lt_of_cell? w _ hw181_0)).trans hw181_0), ((HB.out.cell (World.block_lt_of_cell? w _ hw181_1)).trans hw181_1), ((HB.out.cell (World.block_lt_of_cell? w _ hw181_2)).trans hw181_2), ((HB.out.cell (World.block_lt_of_cell? w _ hw182_0)).trans hw182_0), ((HB.out.cell (World.block_lt_of_cell? w _ hw182_1)).trans hw182_1), ((HB.out.cell (World.block_lt_of_cell? w _ hw182_2)).trans hw182_2)⟩ (fun hHeld => ?_); refine with_tabW spec_validLog.tab6 spec_validLog.bits6 (fun HT_ HW_ => ?_)
               generalize wr.drew = w23 at HB hx178_0 hx178_1 hx178_2 hx180_0 hx180_1 hx180_2 hx181_0 hx181_1 hx181_2 hx182_0 hx182_1 hx182_2 hHeld ⊢
               refine pT_ HT_.out 0 20 (bs 44 1) ?_
               refine pT_ HT_.out 1 21 (bs 44 3) ?_
               refine pT_ HT_.out 2 22 (bs 44 7) ?_
               refine pT_ HT_.out 3 23 (bs 44 15) ?_
               refine take_ (i := 4) (N := some 24) (v := ?_) (a' := ?_) (bs 44 31) rfl rfl (take_ofW HT_.out HW_.out (by kernel_rfl)) (fun _ _ _ h => h) (Or.inl ⟨by rfl, ?_⟩) hHeld ?_ ?_
               rotate_left
               ·rintro w' ⟨s0, s1, s2, s3, s4, s5, s6, s7, s8, s9, s10, s11⟩
                go_simp
                with_reducible rfl
               rotate_left
               ·simp only [Act.put, List.setIfInBounds_toArray, List.set_cons_zero, List.set_cons_succ, i64_w, i32_w]
                rfl
               refine one_ (i := 5) (N := some 25) (bs 44 63) rfl rfl (one_of HT_.out (by kernel_rfl)) (by decide) (fun K hK => ?_)
               refine goes_ Tryd.func40 (by kernel_rfl) rfl #[.int .i64 ((rd_T46 l1 x5_2).f0), .int .i64 0, .int .i64 200] (by rfl) rfl rfl (by (try simp only [List.map_toArray, List.map_cons, List.map_nil]); first | done | rfl | (simp only [List.length_drop, List.length_take]; rfl)) ?_
               with_reducible refine (spec_inRange.calls ((rd_T46 l1 x5_2).f0) 0 200 true _ A11.out).mono ?_
               rintro e w' ⟨rfl, ⟨nd, rfl⟩⟩
               refine ⟨_, rfl, ?_⟩
               refine hK.out _ _ ⟨((HB.out.cell (World.block_lt_of_cell? w _ hw178_0)).trans hw178_0), ((HB.out.cell (World.block_lt_of_cell? w _ hw178_1)).trans hw178_1), ((HB.out.cell (World.block_lt_of_cell? w _ hw178_2)).trans hw178_2), ((HB.out.cell (World.block_lt_of_cell? w _ hw180_0)).trans hw180_0), ((HB.out.cell (World.block_lt_of_cell? w _ hw180_1)).trans hw180_1), ((HB.out.cell (World.block_lt_of_cell? w _ hw180_2)).trans hw180_2), ((HB.out.cell (World.block_lt_of_cell? w _ hw181_0)).trans hw181_0), ((HB.out.cell (World.block_lt_of_cell? w _ hw181_1)).trans hw181_1), ((HB.out.cell (World.block_lt_of_cell? w _ hw181_2)).trans hw181_2), ((HB.out.cell (World.block_lt_of_cell? w _ hw182_0)).trans hw182_0), ((HB.out.cell (World.block_lt_of_cell? w _ hw182_1)).trans hw182_1), ((HB.out.cell (World.block_lt_of_cell? w _ hw182_2)).trans hw182_2)⟩ (fun hHeld => ?_)
               clear hK K
               refine norm_ (a' := ?_) ?_ ?_
               rotate_left
               ·show Act.put _ (some 25) _ = _
                simp only [Act.put, List.setIfInBounds_toArray, List.set_cons_zero, List.set_cons_succ, i64_w, i32_w]
                rfl
               refine pT_ HT_.out 6 26 (bs 44 127) ?_
               refine pT_ HT_.out 7 27 (bs 44 255) ?_
               refine pT_ HT_.out 8 28 (bs 44 511) ?_
               refine pT_ HT_.out 9 29 (bs 44 1023) ?_
               refine pT_ HT_.out 10 30 (bs 44 2047) ?_
               refine pT_ HT_.out 11 31 (bs 44 4095) ?_
               refine pT_ HT_.out 12 32 (bs 44 8191) ?_
               refine pT_ HT_.out 13 33 (bs 44 16383) ?_
               refine pT_ HT_.out 14 34 (bs 44 32767) ?_
               refine pT_ HT_.out 16 36 (bs 44 98303) ?_
               refine pT_ HT_.out 17 37 (bs 44 229375) ?_
               refine pT_ HT_.out 18 38 (bs 44 491519) ?_
               refine pT_ HT_.out 19 39 (bs 44 1015807) ?_
               refine pT_ HT_.out 20 40 (bs 44 2064383) ?_
               refine take_ (i := 15) (N := some 35) (v := ?_) (a' := ?_) (bs 44 2097151) rfl rfl (take_ofW HT_.out HW_.out (by kernel_rfl)) (fun _ _ _ h => h) (Or.inl ⟨by rfl, ?_⟩) hHeld ?_ ?_
               rotate_left
               ·rintro w' ⟨s0, s1, s2, s3, s4, s5, s6, s7, s8, s9, s10, s11⟩
                go_simp
                with_reducible rfl
               rotate_left
               ·simp only [Act.put, List.setIfInBounds_toArray, List.set_cons_zero, List.set_cons_succ, i64_w, i32_w]
                rfl
               refine take_ (i := 21) (N := some 41) (v := ?_) (a' := ?_) (bs 44 4194303) rfl rfl (take_ofW HT_.out HW_.out (by kernel_rfl)) (fun _ _ _ h => h) (Or.inl ⟨by rfl, ?_⟩) hHeld ?_ ?_
               rotate_left
               ·rintro w' ⟨s0, s1, s2, s3, s4, s5, s6, s7, s8, s9, s10, s11⟩
                go_simp
                with_reducible rfl
               rotate_left
               ·simp only [Act.put, List.setIfInBounds_toArray, List.set_cons_zero, List.set_cons_succ, i64_w, i32_w]
                rfl
               refine pT_ HT_.out 22 42 (bs 44 8388607) ?_
               refine pT_ HT_.out 23 43 (bs 44 16777215) ?_
               refine pT_ HT_.out 24 44 (bs 44 33554431) ?_
               refine pT_ HT_.out 25 45 (bs 44 67108863) ?_
               refine pT_ HT_.out 26 46 (bs 44 134217727) ?_
               refine pT_ HT_.out 27 47 (bs 44 268435455) ?_
               refine pT_ HT_.out 28 48 (bs 44 536870911) ?_
               refine pT_ HT_.out 29 49 (bs 44 1073741823) ?_
               refine pT_ HT_.out 31 51 (bs 44 3221225471) ?_
               refine pT_ HT_.out 32 52 (bs 44 7516192767) ?_
               refine pT_ HT_.out 33 53 (bs 44 16106127359) ?_
               refine take_ (i := 30) (N := some 50) (v := ?_) (a' := ?_) (bs 44 17179869183) rfl rfl (take_ofW HT_.out HW_.out (by kernel_rfl)) (fun _ _ _ h => h) (Or.inl ⟨by rfl, ?_⟩) hHeld ?_ ?_
               rotate_left
               ·rintro w' ⟨s0, s1, s2, s3, s4, s5, s6, s7, s8, s9, s10, s11⟩
                go_simp
                with_reducible rfl
               rotate_left
               ·simp only [Act.put, List.setIfInBounds_toArray, List.set_cons_zero, List.set_cons_succ, i64_w, i32_w]
                rfl
               refine one_ (i := 34) (N := some 54) (bs 44 34359738367) rfl rfl (one_of HT_.out (by kernel_rfl)) (by decide) (fun K hK => ?_)
               refine goes_ Tryd.func40 (by kernel_rfl) rfl #[.int .i64 ((rd_T46 l1 x5_2).f1), .int .i64 0, .int .i64 (wrap64 ((l0.length : Int) - 1))] (by rfl) rfl rfl (by (try simp only [List.map_toArray, List.map_cons, List.map_nil]); first | done | rfl | (simp only [List.length_drop, List.length_take]; rfl)) ?_
               with_reducible refine (spec_inRange.calls ((rd_T46 l1 x5_2).f1) 0 (wrap64 ((l0.length : Int) - 1)) true _ A19.out).mono ?_
               rintro e w' ⟨rfl, ⟨nd, rfl⟩⟩
               refine ⟨_, rfl, ?_⟩
               refine hK.out _ _ ⟨((HB.out.cell (World.block_lt_of_cell? w _ hw178_0)).trans hw178_0), ((HB.out.cell (World.block_lt_of_cell? w _ hw178_1)).trans hw178_1), ((HB.out.cell (World.block_lt_of_cell? w _ hw178_2)).trans hw178_2), ((HB.out.cell (World.block_lt_of_cell? w _ hw180_0)).trans hw180_0), ((HB.out.cell (World.block_lt_of_cell? w _ hw180_1)).trans hw180_1), ((HB.out.cell (World.block_lt_of_cell? w _ hw180_2)).trans hw180_2), ((HB.out.cell (World.block_lt_of_cell? w _ hw181_0)).trans hw181_0), ((HB.out.cell (World.block_lt_of_cell? w _ hw181_1)).trans hw181_1), ((HB.out.cell (World.block_lt_of_cell? w _ hw181_2)).trans hw181_2), ((HB.out.cell (World.block_lt_of_cell? w _ hw182_0)).trans hw182_0), ((HB.out.cell (World.block_lt_of_cell? w _ hw182_1)).trans hw182_1), ((HB.out.cell (World.block_lt_of_cell? w _ hw182_2)).trans hw182_2)⟩ (fun hHeld => ?_)
               clear hK K
               refine norm_ (a' := ?_) ?_ ?_
               rotate_left
               ·show Act.put _ (some 54) _ = _
                simp only [Act.put, List.setIfInBounds_toArray, List.set_cons_zero, List.set_cons_succ, i64_w, i32_w]
                rfl
               refine pT_ HT_.out 35 55 (bs 44 68719476735) ?_
               refine pT_ HT_.out 36 56 (bs 44 137438953471) ?_
               refine pT_ HT_.out 37 57 (bs 44 274877906943) ?_
               refine pT_ HT_.out 38 58 (bs 44 549755813887) ?_
               refine pT_ HT_.out 39 59 (bs 44 1099511627775) ?_
               refine pT_ HT_.out 40 60 (bs 44 2199023255551) ?_
               refine one_ (i := 41) (N := some 61) (bs 44 4398046511103) rfl rfl (one_of HT_.out (by kernel_rfl)) (by decide) (fun K hK => ?_)
               refine goes_ Tryd.func41 (by kernel_rfl) rfl #[.slice A0 l0.length c0, .slice (some ad178) l1.length c1, .int .i64 x5_2] (by rfl) rfl rfl (by (try simp only [List.map_toArray, List.map_cons, List.map_nil]); first | done | rfl | (simp only [List.length_drop, List.length_take]; rfl)) ?_
               with_reducible refine (spec_eventFits.calls k2 _ _ l0 _ _ l1 x5_2 true _ ?side1 ?side2 ?side3 ?side4 A21.out).mono ?_
               (case side1 => exact cw_ (Kd.C_below HR0.out blw_))
               (case side2 => exact HC0.out)
               (case side3 => exact cw_ (Kd.C_below HR1.out blw_))
               (case side4 => exact HC1.out)
               rintro e w24 ⟨rfl, hb⟩
               refine ⟨_, rfl, ?_⟩
               have n0_ := Aside0.mk (below_step blw_ hb)
               clear HB
               have HB := n0_
               clear n0_
               (try clear hb)
               (try clear hb2)
               (try clear hk)
               (try clear hi)
               refine hK.out _ _ ⟨((HB.out.cell (World.block_lt_of_cell? w _ hw178_0)).trans hw178_0), ((HB.out.cell (World.block_lt_of_cell? w _ hw178_1)).trans hw178_1), ((HB.out.cell (World.block_lt_of_cell? w _ hw178_2)).trans hw178_2), ((HB.out.cell (World.block_lt_of_cell? w _ hw180_0)).trans hw180_0), ((HB.out.cell (World.block_lt_of_cell? w _ hw180_1)).trans hw180_1), ((HB.out.cell (World.block_lt_of_cell? w _ hw180_2)).trans hw180_2), ((HB.out.cell (World.block_lt_of_cell? w _ hw181_0)).trans hw181_0), ((HB.out.cell (World.block_lt_of_cell? w _ hw181_1)).trans hw181_1), ((HB.out.cell (World.block_lt_of_cell? w _ hw181_2)).trans hw181_2), ((HB.out.cell (World.block_lt_of_cell? w _ hw182_0)).trans hw182_0), ((HB.out.cell (World.block_lt_of_cell? w _ hw182_1)).trans hw182_1), ((HB.out.cell (World.block_lt_of_cell? w _ hw182_2)).trans hw182_2)⟩ (fun hHeld => ?_)
               clear hK K
               refine norm_ (a' := ?_) ?_ ?_
               rotate_left
               ·show Act.put _ (some 61) _ = _
                simp only [Act.put, List.setIfInBounds_toArray, List.set_cons_zero, List.set_cons_succ, i64_w, i32_w]
                rfl
               refine pT_ HT_.out 42 62 (bs 44 8796093022207) ?_
               refine pT_ HT_.out 43 63 (bs 44 17592186044415) ?_
               refine done_ (done_of HT_.out (by kernel_rfl)) ?_
               try go_wp2
               go_roundg k2
               case measure => have := HJ2.out; have := HK2.out; omega
               case rel => exact ⟨(wrap64 (x5_2 + 1)), (by first | rfl | (simp; done) | (simp [*]; done)), H', ⟨by have := HJ2.out; have := HK2.out; omega⟩, ⟨blw_⟩⟩
              ·replace c22 := Bool.eq_false_iff.mpr c22
               subst c22
               have H1 : (some false) = some r := by rw [if_neg (show ¬ (false = true) by decide)] at H; exact H
               clear H
               have H := H1
               clear H1
               obtain rfl := Option.some.inj H
               try go_wp2
               have n0_ := Aside0.mk (below_drew1 HB.out)
               clear HB
               have HB := n0_
               clear n0_
               have p178 : 0 ≤ (x5_2 : Int) := of_decide_eq_true (by first | (with_reducible assumption) | assumption)
               have q178 : x5_2 < (l1.length : Int) := of_decide_eq_true (by first | (with_reducible assumption) | assumption)
               obtain ⟨ad178, e178, hx178_0, hx178_1, hx178_2⟩ := at_T46 HR1.out x5_2 p178 q178
               have hw178_2 := hx178_2
               have hw178_1 := hx178_1
               have hw178_0 := hx178_0
               cases e178
               replace hx178_0 := (HB.out.cell (World.block_lt_of_cell? w _ hx178_0)).trans hx178_0
               replace hx178_1 := (HB.out.cell (World.block_lt_of_cell? w _ hx178_1)).trans hx178_1
               replace hx178_2 := (HB.out.cell (World.block_lt_of_cell? w _ hx178_2)).trans hx178_2
               replace p178 := eq_true p178
               replace q178 := eq_true q178
               have p180 : 0 ≤ (x5_2 : Int) := of_decide_eq_true (by first | (with_reducible assumption) | assumption)
               have q180 : x5_2 < (l1.length : Int) := of_decide_eq_true (by first | (with_reducible assumption) | assumption)
               obtain ⟨ad180, e180, hx180_0, hx180_1, hx180_2⟩ := at_T46 HR1.out x5_2 p180 q180
               have hw180_2 := hx180_2
               have hw180_1 := hx180_1
               have hw180_0 := hx180_0
               obtain rfl : ad178 = ad180 := (by injection e180)
               replace hx180_0 := (HB.out.cell (World.block_lt_of_cell? w _ hx180_0)).trans hx180_0
               replace hx180_1 := (HB.out.cell (World.block_lt_of_cell? w _ hx180_1)).trans hx180_1
               replace hx180_2 := (HB.out.cell (World.block_lt_of_cell? w _ hx180_2)).trans hx180_2
               replace p180 := eq_true p180
               replace q180 := eq_true q180
               have p181 : 0 ≤ ((ji14) : Int) := of_decide_eq_true (by first | (with_reducible assumption) | assumption)
               have q181 : (ji14) < (l1.length : Int) := of_decide_eq_true (by first | (with_reducible assumption) | assumption)
               obtain ⟨ad181, e181, hx181_0, hx181_1, hx181_2⟩ := at_T46 HR1.out (ji14) p181 q181
               have hw181_2 := hx181_2
               have hw181_1 := hx181_1
               have hw181_0 := hx181_0
               obtain rfl : ad178 = ad181 := (by injection e181)
               replace hx181_0 := (HB.out.cell (World.block_lt_of_cell? w _ hx181_0)).trans hx181_0
               replace hx181_1 := (HB.out.cell (World.block_lt_of_cell? w _ hx181_1)).trans hx181_1
               replace hx181_2 := (HB.out.cell (World.block_lt_of_cell? w _ hx181_2)).trans hx181_2
               replace p181 := eq_true p181
               replace q181 := eq_true q181
               have p182 : 0 ≤ (x5_2 : Int) := of_decide_eq_true (by first | (with_reducible assumption) | assumption)
               have q182 : x5_2 < (l1.length : Int) := of_decide_eq_true (by first | (with_reducible assumption) | assumption)
               obtain ⟨ad182, e182, hx182_0, hx182_1, hx182_2⟩ := at_T46 HR1.out x5_2 p182 q182
               have hw182_2 := hx182_2
               have hw182_1 := hx182_1
               have hw182_0 := hx182_0
               obtain rfl : ad178 = ad182 := (by injection e182)
               replace hx182_0 := (HB.out.cell (World.block_lt_of_cell? w _ hx182_0)).trans hx182_0
               replace hx182_1 := (HB.out.cell (World.block_lt_of_cell? w _ hx182_1)).trans hx182_1
               replace hx182_2 := (HB.out.cell (World.block_lt_of_cell? w _ hx182_2)).trans hx182_2
               replace p182 := eq_true p182
               replace q182 := eq_true q182
               refine start_ (n := 44) (S := fun w' => w'.cell? (ad178.add ((x5_2).toNat * 3)) = some (.int .i64 ((rd_T46 l1 x5_2).f0)) ∧ w'.cell? ⟨(ad178.add ((x5_2).toNat * 3)).block, (ad178.add ((x5_2).toNat * 3)).off + 1, none⟩ = some (.int .i64 ((rd_T46 l1 x5_2).f1)) ∧ w'.cell? ⟨(ad178.add ((x5_2).toNat * 3)).block, (ad178.add ((x5_2).toNat * 3)).off + 2, none⟩ = some (.bool ((rd_T46 l1 x5_2).f2)) ∧ w'.cell? (ad178.add ((x5_2).toNat * 3)) = some (.int .i64 ((rd_T46 l1 x5_2).f0)) ∧ w'.cell? ⟨(ad178.add ((x5_2).toNat * 3)).block, (ad178.add ((x5_2).toNat * 3)).off + 1, none⟩ = some (.int .i64 ((rd_T46 l1 x5_2).f1)) ∧ w'.cell? ⟨(ad178.add ((x5_2).toNat * 3)).block, (ad178.add ((x5_2).toNat * 3)).off + 2, none⟩ = some (.bool ((rd_T46 l1 x5_2).f2)) ∧ w'.cell? (ad178.add (((ji14)).toNat * 3)) = some (.int .i64 ((rd_T46 l1 (ji14)).f0)) ∧ w'.cell? ⟨(ad178.add (((ji14)).toNat * 3)).block, (ad178.add (((ji14)).toNat * 3)).off + 1, none⟩ = some (.int .i64 ((rd_T46 l1 (ji14)).f1)) ∧ w'.cell? ⟨(ad178.add (((ji14)).toNat * 3)).block, (ad178.add (((ji14)).toNat * 3)).off + 2, none⟩ = some (.bool ((rd_T46 l1 (ji14)).f2)) ∧ w'.cell? (ad178.add ((x5_2).toNat * 3)) = some (.int .i64 ((rd_T46 l1 x5_2).f0)) ∧ w'.cell? ⟨(ad178.add ((x5_2).toNat * 3)).block, (ad178.add ((x5_2).toNat * 3)).off + 1, none⟩ = some (.int .i64 ((rd_T46 l1 x5_2).f1)) ∧ w'.cell? ⟨(ad178.add ((x5_2).toNat * 3)).block, (ad178.add ((x5_2).toNat * 3)).off + 2, none⟩ = some (.bool ((rd_T46 l1 x5_2).f2))) (ds := []) (bs 44 0) (by kernel_rfl) rfl (by kernel_rfl) ⟨((HB.out.cell (World.block_lt_of_cell? w _ hw178_0)).trans hw178_0), ((HB.out.cell (World.block_lt_of_cell? w _ hw178_1)).trans hw178_1), ((HB.out.cell (World.block_lt_of_cell? w _ hw178_2)).trans hw178_2), ((HB.out.cell (World.block_lt_of_cell? w _ hw180_0)).trans hw180_0), ((HB.out.cell (World.block_lt_of_cell? w _ hw180_1)).trans hw180_1), ((HB.out.cell (World.block_lt_of_cell? w _ hw180_2)).trans hw180_2), ((HB.out.cell (World.block_lt_of_cell? w _ hw181_0)).trans hw181_0), ((HB.out.cell (World.block_lt_of_cell? w _ hw181_1)).trans hw181_1), ((HB.out.cell (World.block_lt_of_cell? w _ hw181_2)).trans hw181_2), ((HB.out.cell (World.block_lt_of_cell? w _ hw182_0)).trans hw182_0), ((HB.out.cell (World.block_lt_of_cell? w _ hw182_1)).trans hw182_1), ((HB.out.cell (World.block_lt_of_cell? w _ hw182_2)).trans hw182_2)⟩ (fun hHeld => ?_); refine with_tabW spec_validLog.tab6 spec_validLog.bits6 (fun HT_ HW_ => ?_)
               generalize wr.drew = w25 at HB hx178_0 hx178_1 hx178_2 hx180_0 hx180_1 hx180_2 hx181_0 hx181_1 hx181_2 hx182_0 hx182_1 hx182_2 hHeld ⊢
               refine pT_ HT_.out 0 20 (bs 44 1) ?_
               refine pT_ HT_.out 1 21 (bs 44 3) ?_
               refine pT_ HT_.out 2 22 (bs 44 7) ?_
               refine pT_ HT_.out 3 23 (bs 44 15) ?_
               refine take_ (i := 4) (N := some 24) (v := ?_) (a' := ?_) (bs 44 31) rfl rfl (take_ofW HT_.out HW_.out (by kernel_rfl)) (fun _ _ _ h => h) (Or.inl ⟨by rfl, ?_⟩) hHeld ?_ ?_
               rotate_left
               ·rintro w' ⟨s0, s1, s2, s3, s4, s5, s6, s7, s8, s9, s10, s11⟩
                go_simp
                with_reducible rfl
               rotate_left
               ·simp only [Act.put, List.setIfInBounds_toArray, List.set_cons_zero, List.set_cons_succ, i64_w, i32_w]
                rfl
               refine one_ (i := 5) (N := some 25) (bs 44 63) rfl rfl (one_of HT_.out (by kernel_rfl)) (by decide) (fun K hK => ?_)
               refine goes_ Tryd.func40 (by kernel_rfl) rfl #[.int .i64 ((rd_T46 l1 x5_2).f0), .int .i64 0, .int .i64 200] (by rfl) rfl rfl (by (try simp only [List.map_toArray, List.map_cons, List.map_nil]); first | done | rfl | (simp only [List.length_drop, List.length_take]; rfl)) ?_
               with_reducible refine (spec_inRange.calls ((rd_T46 l1 x5_2).f0) 0 200 true _ A11.out).mono ?_
               rintro e w' ⟨rfl, ⟨nd, rfl⟩⟩
               refine ⟨_, rfl, ?_⟩
               refine hK.out _ _ ⟨((HB.out.cell (World.block_lt_of_cell? w _ hw178_0)).trans hw178_0), ((HB.out.cell (World.block_lt_of_cell? w _ hw178_1)).trans hw178_1), ((HB.out.cell (World.block_lt_of_cell? w _ hw178_2)).trans hw178_2), ((HB.out.cell (World.block_lt_of_cell? w _ hw180_0)).trans hw180_0), ((HB.out.cell (World.block_lt_of_cell? w _ hw180_1)).trans hw180_1), ((HB.out.cell (World.block_lt_of_cell? w _ hw180_2)).trans hw180_2), ((HB.out.cell (World.block_lt_of_cell? w _ hw181_0)).trans hw181_0), ((HB.out.cell (World.block_lt_of_cell? w _ hw181_1)).trans hw181_1), ((HB.out.cell (World.block_lt_of_cell? w _ hw181_2)).trans hw181_2), ((HB.out.cell (World.block_lt_of_cell? w _ hw182_0)).trans hw182_0), ((HB.out.cell (World.block_lt_of_cell? w _ hw182_1)).trans hw182_1), ((HB.out.cell (World.block_lt_of_cell? w _ hw182_2)).trans hw182_2)⟩ (fun hHeld => ?_)
               clear hK K
               refine norm_ (a' := ?_) ?_ ?_
               rotate_left
               ·show Act.put _ (some 25) _ = _
                simp only [Act.put, List.setIfInBounds_toArray, List.set_cons_zero, List.set_cons_succ, i64_w, i32_w]
                rfl
               refine pT_ HT_.out 6 26 (bs 44 127) ?_
               refine pT_ HT_.out 7 27 (bs 44 255) ?_
               refine pT_ HT_.out 8 28 (bs 44 511) ?_
               refine pT_ HT_.out 9 29 (bs 44 1023) ?_
               refine pT_ HT_.out 10 30 (bs 44 2047) ?_
               refine pT_ HT_.out 11 31 (bs 44 4095) ?_
               refine pT_ HT_.out 12 32 (bs 44 8191) ?_
               refine pT_ HT_.out 13 33 (bs 44 16383) ?_
               refine pT_ HT_.out 14 34 (bs 44 32767) ?_
               refine pT_ HT_.out 16 36 (bs 44 98303) ?_
               refine pT_ HT_.out 17 37 (bs 44 229375) ?_
               refine pT_ HT_.out 18 38 (bs 44 491519) ?_
               refine pT_ HT_.out 19 39 (bs 44 1015807) ?_
               refine pT_ HT_.out 20 40 (bs 44 2064383) ?_
               refine take_ (i := 15) (N := some 35) (v := ?_) (a' := ?_) (bs 44 2097151) rfl rfl (take_ofW HT_.out HW_.out (by kernel_rfl)) (fun _ _ _ h => h) (Or.inl ⟨by rfl, ?_⟩) hHeld ?_ ?_
               rotate_left
               ·rintro w' ⟨s0, s1, s2, s3, s4, s5, s6, s7, s8, s9, s10, s11⟩
                go_simp
                with_reducible rfl
               rotate_left
               ·simp only [Act.put, List.setIfInBounds_toArray, List.set_cons_zero, List.set_cons_succ, i64_w, i32_w]
                rfl
               refine take_ (i := 21) (N := some 41) (v := ?_) (a' := ?_) (bs 44 4194303) rfl rfl (take_ofW HT_.out HW_.out (by kernel_rfl)) (fun _ _ _ h => h) (Or.inl ⟨by rfl, ?_⟩) hHeld ?_ ?_
               rotate_left
               ·rintro w' ⟨s0, s1, s2, s3, s4, s5, s6, s7, s8, s9, s10, s11⟩
                go_simp
                with_reducible rfl
               rotate_left
               ·simp only [Act.put, List.setIfInBounds_toArray, List.set_cons_zero, List.set_cons_succ, i64_w, i32_w]
                rfl
               refine pT_ HT_.out 22 42 (bs 44 8388607) ?_
               refine pT_ HT_.out 23 43 (bs 44 16777215) ?_
               refine pT_ HT_.out 24 44 (bs 44 33554431) ?_
               refine pT_ HT_.out 25 45 (bs 44 67108863) ?_
               refine pT_ HT_.out 26 46 (bs 44 134217727) ?_
               refine pT_ HT_.out 27 47 (bs 44 268435455) ?_
               refine pT_ HT_.out 28 48 (bs 44 536870911) ?_
               refine pT_ HT_.out 29 49 (bs 44 1073741823) ?_
               refine pT_ HT_.out 31 51 (bs 44 3221225471) ?_
               refine pT_ HT_.out 32 52 (bs 44 7516192767) ?_
               refine pT_ HT_.out 33 53 (bs 44 16106127359) ?_
               refine take_ (i := 30) (N := some 50) (v := ?_) (a' := ?_) (bs 44 17179869183) rfl rfl (take_ofW HT_.out HW_.out (by kernel_rfl)) (fun _ _ _ h => h) (Or.inl ⟨by rfl, ?_⟩) hHeld ?_ ?_
               rotate_left
               ·rintro w' ⟨s0, s1, s2, s3, s4, s5, s6, s7, s8, s9, s10, s11⟩
                go_simp
                with_reducible rfl
               rotate_left
               ·simp only [Act.put, List.setIfInBounds_toArray, List.set_cons_zero, List.set_cons_succ, i64_w, i32_w]
                rfl
               refine one_ (i := 34) (N := some 54) (bs 44 34359738367) rfl rfl (one_of HT_.out (by kernel_rfl)) (by decide) (fun K hK => ?_)
               refine goes_ Tryd.func40 (by kernel_rfl) rfl #[.int .i64 ((rd_T46 l1 x5_2).f1), .int .i64 0, .int .i64 (wrap64 ((l0.length : Int) - 1))] (by rfl) rfl rfl (by (try simp only [List.map_toArray, List.map_cons, List.map_nil]); first | done | rfl | (simp only [List.length_drop, List.length_take]; rfl)) ?_
               with_reducible refine (spec_inRange.calls ((rd_T46 l1 x5_2).f1) 0 (wrap64 ((l0.length : Int) - 1)) true _ A19.out).mono ?_
               rintro e w' ⟨rfl, ⟨nd, rfl⟩⟩
               refine ⟨_, rfl, ?_⟩
               refine hK.out _ _ ⟨((HB.out.cell (World.block_lt_of_cell? w _ hw178_0)).trans hw178_0), ((HB.out.cell (World.block_lt_of_cell? w _ hw178_1)).trans hw178_1), ((HB.out.cell (World.block_lt_of_cell? w _ hw178_2)).trans hw178_2), ((HB.out.cell (World.block_lt_of_cell? w _ hw180_0)).trans hw180_0), ((HB.out.cell (World.block_lt_of_cell? w _ hw180_1)).trans hw180_1), ((HB.out.cell (World.block_lt_of_cell? w _ hw180_2)).trans hw180_2), ((HB.out.cell (World.block_lt_of_cell? w _ hw181_0)).trans hw181_0), ((HB.out.cell (World.block_lt_of_cell? w _ hw181_1)).trans hw181_1), ((HB.out.cell (World.block_lt_of_cell? w _ hw181_2)).trans hw181_2), ((HB.out.cell (World.block_lt_of_cell? w _ hw182_0)).trans hw182_0), ((HB.out.cell (World.block_lt_of_cell? w _ hw182_1)).trans hw182_1), ((HB.out.cell (World.block_lt_of_cell? w _ hw182_2)).trans hw182_2)⟩ (fun hHeld => ?_)
               clear hK K
               refine norm_ (a' := ?_) ?_ ?_
               rotate_left
               ·show Act.put _ (some 54) _ = _
                simp only [Act.put, List.setIfInBounds_toArray, List.set_cons_zero, List.set_cons_succ, i64_w, i32_w]
                rfl
               refine pT_ HT_.out 35 55 (bs 44 68719476735) ?_
               refine pT_ HT_.out 36 56 (bs 44 137438953471) ?_
               refine pT_ HT_.out 37 57 (bs 44 274877906943) ?_
               refine pT_ HT_.out 38 58 (bs 44 549755813887) ?_
               refine pT_ HT_.out 39 59 (bs 44 1099511627775) ?_
               refine pT_ HT_.out 40 60 (bs 44 2199023255551) ?_
               refine one_ (i := 41) (N := some 61) (bs 44 4398046511103) rfl rfl (one_of HT_.out (by kernel_rfl)) (by decide) (fun K hK => ?_)
               refine goes_ Tryd.func41 (by kernel_rfl) rfl #[.slice A0 l0.length c0, .slice (some ad178) l1.length c1, .int .i64 x5_2] (by rfl) rfl rfl (by (try simp only [List.map_toArray, List.map_cons, List.map_nil]); first | done | rfl | (simp only [List.length_drop, List.length_take]; rfl)) ?_
               with_reducible refine (spec_eventFits.calls k2 _ _ l0 _ _ l1 x5_2 false _ ?side1 ?side2 ?side3 ?side4 A21.out).mono ?_
               (case side1 => exact cw_ (Kd.C_below HR0.out blw_))
               (case side2 => exact HC0.out)
               (case side3 => exact cw_ (Kd.C_below HR1.out blw_))
               (case side4 => exact HC1.out)
               rintro e w26 ⟨rfl, hb⟩
               refine ⟨_, rfl, ?_⟩
               have n0_ := Aside0.mk (below_step blw_ hb)
               clear HB
               have HB := n0_
               clear n0_
               (try clear hb)
               (try clear hb2)
               (try clear hk)
               (try clear hi)
               refine hK.out _ _ ⟨((HB.out.cell (World.block_lt_of_cell? w _ hw178_0)).trans hw178_0), ((HB.out.cell (World.block_lt_of_cell? w _ hw178_1)).trans hw178_1), ((HB.out.cell (World.block_lt_of_cell? w _ hw178_2)).trans hw178_2), ((HB.out.cell (World.block_lt_of_cell? w _ hw180_0)).trans hw180_0), ((HB.out.cell (World.block_lt_of_cell? w _ hw180_1)).trans hw180_1), ((HB.out.cell (World.block_lt_of_cell? w _ hw180_2)).trans hw180_2), ((HB.out.cell (World.block_lt_of_cell? w _ hw181_0)).trans hw181_0), ((HB.out.cell (World.block_lt_of_cell? w _ hw181_1)).trans hw181_1), ((HB.out.cell (World.block_lt_of_cell? w _ hw181_2)).trans hw181_2), ((HB.out.cell (World.block_lt_of_cell? w _ hw182_0)).trans hw182_0), ((HB.out.cell (World.block_lt_of_cell? w _ hw182_1)).trans hw182_1), ((HB.out.cell (World.block_lt_of_cell? w _ hw182_2)).trans hw182_2)⟩ (fun hHeld => ?_)
               clear hK K
               refine norm_ (a' := ?_) ?_ ?_
               rotate_left
               ·show Act.put _ (some 61) _ = _
                simp only [Act.put, List.setIfInBounds_toArray, List.set_cons_zero, List.set_cons_succ, i64_w, i32_w]
                rfl
               refine pT_ HT_.out 42 62 (bs 44 8796093022207) ?_
               refine pT_ HT_.out 43 63 (bs 44 17592186044415) ?_
               refine done_ (done_of HT_.out (by kernel_rfl)) ?_
               try go_wp2
               go_ret
               exact ⟨by first | rfl | (simp [errW_none, errW_some] <;> rfl) | (simp only [← hji14]; first | rfl | (simp [errW_none, errW_some] <;> rfl)) | (simp [*, errW_none, errW_some] <;> rfl), blw_⟩
             ·replace c20 := Bool.eq_false_iff.mpr c20
              subst c20
              have H1 : (some false) = some r := by rw [if_neg (show ¬ (false = true) by decide)] at H; exact H
              clear H
              have H := H1
              clear H1
              obtain rfl := Option.some.inj H
              try go_wp2
              have n0_ := Aside0.mk (below_drew1 HB.out)
              clear HB
              have HB := n0_
              clear n0_
              have p178 : 0 ≤ (x5_2 : Int) := of_decide_eq_true (by first | (with_reducible assumption) | assumption)
              have q178 : x5_2 < (l1.length : Int) := of_decide_eq_true (by first | (with_reducible assumption) | assumption)
              obtain ⟨ad178, e178, hx178_0, hx178_1, hx178_2⟩ := at_T46 HR1.out x5_2 p178 q178
              have hw178_2 := hx178_2
              have hw178_1 := hx178_1
              have hw178_0 := hx178_0
              cases e178
              replace hx178_0 := (HB.out.cell (World.block_lt_of_cell? w _ hx178_0)).trans hx178_0
              replace hx178_1 := (HB.out.cell (World.block_lt_of_cell? w _ hx178_1)).trans hx178_1
              replace hx178_2 := (HB.out.cell (World.block_lt_of_cell? w _ hx178_2)).trans hx178_2
              replace p178 := eq_true p178
              replace q178 := eq_true q178
              have p180 : 0 ≤ (x5_2 : Int) := of_decide_eq_true (by first | (with_reducible assumption) | assumption)
              have q180 : x5_2 < (l1.length : Int) := of_decide_eq_true (by first | (with_reducible assumption) | assumption)
              obtain ⟨ad180, e180, hx180_0, hx180_1, hx180_2⟩ := at_T46 HR1.out x5_2 p180 q180
              have hw180_2 := hx180_2
              have hw180_1 := hx180_1
              have hw180_0 := hx180_0
              obtain rfl : ad178 = ad180 := (by injection e180)
              replace hx180_0 := (HB.out.cell (World.block_lt_of_cell? w _ hx180_0)).trans hx180_0
              replace hx180_1 := (HB.out.cell (World.block_lt_of_cell? w _ hx180_1)).trans hx180_1
              replace hx180_2 := (HB.out.cell (World.block_lt_of_cell? w _ hx180_2)).trans hx180_2
              replace p180 := eq_true p180
              replace q180 := eq_true q180
              have p181 : 0 ≤ ((ji14) : Int) := of_decide_eq_true (by first | (with_reducible assumption) | assumption)
              have q181 : (ji14) < (l1.length : Int) := of_decide_eq_true (by first | (with_reducible assumption) | assumption)
              obtain ⟨ad181, e181, hx181_0, hx181_1, hx181_2⟩ := at_T46 HR1.out (ji14) p181 q181
              have hw181_2 := hx181_2
              have hw181_1 := hx181_1
              have hw181_0 := hx181_0
              obtain rfl : ad178 = ad181 := (by injection e181)
              replace hx181_0 := (HB.out.cell (World.block_lt_of_cell? w _ hx181_0)).trans hx181_0
              replace hx181_1 := (HB.out.cell (World.block_lt_of_cell? w _ hx181_1)).trans hx181_1
              replace hx181_2 := (HB.out.cell (World.block_lt_of_cell? w _ hx181_2)).trans hx181_2
              replace p181 := eq_true p181
              replace q181 := eq_true q181
              have p182 : 0 ≤ (x5_2 : Int) := of_decide_eq_true (by first | (with_reducible assumption) | assumption)
              have q182 : x5_2 < (l1.length : Int) := of_decide_eq_true (by first | (with_reducible assumption) | assumption)
              obtain ⟨ad182, e182, hx182_0, hx182_1, hx182_2⟩ := at_T46 HR1.out x5_2 p182 q182
              have hw182_2 := hx182_2
              have hw182_1 := hx182_1
              have hw182_0 := hx182_0
              obtain rfl : ad178 = ad182 := (by injection e182)
              replace hx182_0 := (HB.out.cell (World.block_lt_of_cell? w _ hx182_0)).trans hx182_0
              replace hx182_1 := (HB.out.cell (World.block_lt_of_cell? w _ hx182_1)).trans hx182_1
              replace hx182_2 := (HB.out.cell (World.block_lt_of_cell? w _ hx182_2)).trans hx182_2
              replace p182 := eq_true p182
              replace q182 := eq_true q182
              refine start_ (n := 44) (S := fun w' => w'.cell? (ad178.add ((x5_2).toNat * 3)) = some (.int .i64 ((rd_T46 l1 x5_2).f0)) ∧ w'.cell? ⟨(ad178.add ((x5_2).toNat * 3)).block, (ad178.add ((x5_2).toNat * 3)).off + 1, none⟩ = some (.int .i64 ((rd_T46 l1 x5_2).f1)) ∧ w'.cell? ⟨(ad178.add ((x5_2).toNat * 3)).block, (ad178.add ((x5_2).toNat * 3)).off + 2, none⟩ = some (.bool ((rd_T46 l1 x5_2).f2)) ∧ w'.cell? (ad178.add ((x5_2).toNat * 3)) = some (.int .i64 ((rd_T46 l1 x5_2).f0)) ∧ w'.cell? ⟨(ad178.add ((x5_2).toNat * 3)).block, (ad178.add ((x5_2).toNat * 3)).off + 1, none⟩ = some (.int .i64 ((rd_T46 l1 x5_2).f1)) ∧ w'.cell? ⟨(ad178.add ((x5_2).toNat * 3)).block, (ad178.add ((x5_2).toNat * 3)).off + 2, none⟩ = some (.bool ((rd_T46 l1 x5_2).f2)) ∧ w'.cell? (ad178.add (((ji14)).toNat * 3)) = some (.int .i64 ((rd_T46 l1 (ji14)).f0)) ∧ w'.cell? ⟨(ad178.add (((ji14)).toNat * 3)).block, (ad178.add (((ji14)).toNat * 3)).off + 1, none⟩ = some (.int .i64 ((rd_T46 l1 (ji14)).f1)) ∧ w'.cell? ⟨(ad178.add (((ji14)).toNat * 3)).block, (ad178.add (((ji14)).toNat * 3)).off + 2, none⟩ = some (.bool ((rd_T46 l1 (ji14)).f2)) ∧ w'.cell? (ad178.add ((x5_2).toNat * 3)) = some (.int .i64 ((rd_T46 l1 x5_2).f0)) ∧ w'.cell? ⟨(ad178.add ((x5_2).toNat * 3)).block, (ad178.add ((x5_2).toNat * 3)).off + 1, none⟩ = some (.int .i64 ((rd_T46 l1 x5_2).f1)) ∧ w'.cell? ⟨(ad178.add ((x5_2).toNat * 3)).block, (ad178.add ((x5_2).toNat * 3)).off + 2, none⟩ = some (.bool ((rd_T46 l1 x5_2).f2))) (ds := []) (bs 44 0) (by kernel_rfl) rfl (by kernel_rfl) ⟨((HB.out.cell (World.block_lt_of_cell? w _ hw178_0)).trans hw178_0), ((HB.out.cell (World.block_lt_of_cell? w _ hw178_1)).trans hw178_1), ((HB.out.cell (World.block_lt_of_cell? w _ hw178_2)).trans hw178_2), ((HB.out.cell (World.block_lt_of_cell? w _ hw180_0)).trans hw180_0), ((HB.out.cell (World.block_lt_of_cell? w _ hw180_1)).trans hw180_1), ((HB.out.cell (World.block_lt_of_cell? w _ hw180_2)).trans hw180_2), ((HB.out.cell (World.block_lt_of_cell? w _ hw181_0)).trans hw181_0), ((HB.out.cell (World.block_lt_of_cell? w _ hw181_1)).trans hw181_1), ((HB.out.cell (World.block_lt_of_cell? w _ hw181_2)).trans hw181_2), ((HB.out.cell (World.block_lt_of_cell? w _ hw182_0)).trans hw182_0), ((HB.out.cell (World.block_lt_of_cell? w _ hw182_1)).trans hw182_1), ((HB.out.cell (World.block_lt_of_cell? w _ hw182_2)).trans hw182_2)⟩ (fun hHeld => ?_); refine with_tabW spec_validLog.tab6 spec_validLog.bits6 (fun HT_ HW_ => ?_)
              generalize wr.drew = w27 at HB hx178_0 hx178_1 hx178_2 hx180_0 hx180_1 hx180_2 hx181_0 hx181_1 hx181_2 hx182_0 hx182_1 hx182_2 hHeld ⊢
              refine pT_ HT_.out 0 20 (bs 44 1) ?_
              refine pT_ HT_.out 1 21 (bs 44 3) ?_
              refine pT_ HT_.out 2 22 (bs 44 7) ?_
              refine pT_ HT_.out 3 23 (bs 44 15) ?_
              refine take_ (i := 4) (N := some 24) (v := ?_) (a' := ?_) (bs 44 31) rfl rfl (take_ofW HT_.out HW_.out (by kernel_rfl)) (fun _ _ _ h => h) (Or.inl ⟨by rfl, ?_⟩) hHeld ?_ ?_
              rotate_left
              ·rintro w' ⟨s0, s1, s2, s3, s4, s5, s6, s7, s8, s9, s10, s11⟩
               go_simp
               with_reducible rfl
              rotate_left
              ·simp only [Act.put, List.setIfInBounds_toArray, List.set_cons_zero, List.set_cons_succ, i64_w, i32_w]
               rfl
              refine one_ (i := 5) (N := some 25) (bs 44 63) rfl rfl (one_of HT_.out (by kernel_rfl)) (by decide) (fun K hK => ?_)
              refine goes_ Tryd.func40 (by kernel_rfl) rfl #[.int .i64 ((rd_T46 l1 x5_2).f0), .int .i64 0, .int .i64 200] (by rfl) rfl rfl (by (try simp only [List.map_toArray, List.map_cons, List.map_nil]); first | done | rfl | (simp only [List.length_drop, List.length_take]; rfl)) ?_
              with_reducible refine (spec_inRange.calls ((rd_T46 l1 x5_2).f0) 0 200 true _ A11.out).mono ?_
              rintro e w' ⟨rfl, ⟨nd, rfl⟩⟩
              refine ⟨_, rfl, ?_⟩
              refine hK.out _ _ ⟨((HB.out.cell (World.block_lt_of_cell? w _ hw178_0)).trans hw178_0), ((HB.out.cell (World.block_lt_of_cell? w _ hw178_1)).trans hw178_1), ((HB.out.cell (World.block_lt_of_cell? w _ hw178_2)).trans hw178_2), ((HB.out.cell (World.block_lt_of_cell? w _ hw180_0)).trans hw180_0), ((HB.out.cell (World.block_lt_of_cell? w _ hw180_1)).trans hw180_1), ((HB.out.cell (World.block_lt_of_cell? w _ hw180_2)).trans hw180_2), ((HB.out.cell (World.block_lt_of_cell? w _ hw181_0)).trans hw181_0), ((HB.out.cell (World.block_lt_of_cell? w _ hw181_1)).trans hw181_1), ((HB.out.cell (World.block_lt_of_cell? w _ hw181_2)).trans hw181_2), ((HB.out.cell (World.block_lt_of_cell? w _ hw182_0)).trans hw182_0), ((HB.out.cell (World.block_lt_of_cell? w _ hw182_1)).trans hw182_1), ((HB.out.cell (World.block_lt_of_cell? w _ hw182_2)).trans hw182_2)⟩ (fun hHeld => ?_)
              clear hK K
              refine norm_ (a' := ?_) ?_ ?_
              rotate_left
              ·show Act.put _ (some 25) _ = _
               simp only [Act.put, List.setIfInBounds_toArray, List.set_cons_zero, List.set_cons_succ, i64_w, i32_w]
               rfl
              refine pT_ HT_.out 6 26 (bs 44 127) ?_
              refine pT_ HT_.out 7 27 (bs 44 255) ?_
              refine pT_ HT_.out 8 28 (bs 44 511) ?_
              refine pT_ HT_.out 9 29 (bs 44 1023) ?_
              refine pT_ HT_.out 10 30 (bs 44 2047) ?_
              refine pT_ HT_.out 11 31 (bs 44 4095) ?_
              refine pT_ HT_.out 12 32 (bs 44 8191) ?_
              refine pT_ HT_.out 13 33 (bs 44 16383) ?_
              refine pT_ HT_.out 14 34 (bs 44 32767) ?_
              refine pT_ HT_.out 16 36 (bs 44 98303) ?_
              refine pT_ HT_.out 17 37 (bs 44 229375) ?_
              refine pT_ HT_.out 18 38 (bs 44 491519) ?_
              refine pT_ HT_.out 19 39 (bs 44 1015807) ?_
              refine pT_ HT_.out 20 40 (bs 44 2064383) ?_
              refine take_ (i := 15) (N := some 35) (v := ?_) (a' := ?_) (bs 44 2097151) rfl rfl (take_ofW HT_.out HW_.out (by kernel_rfl)) (fun _ _ _ h => h) (Or.inl ⟨by rfl, ?_⟩) hHeld ?_ ?_
              rotate_left
              ·rintro w' ⟨s0, s1, s2, s3, s4, s5, s6, s7, s8, s9, s10, s11⟩
               go_simp
               with_reducible rfl
              rotate_left
              ·simp only [Act.put, List.setIfInBounds_toArray, List.set_cons_zero, List.set_cons_succ, i64_w, i32_w]
               rfl
              refine take_ (i := 21) (N := some 41) (v := ?_) (a' := ?_) (bs 44 4194303) rfl rfl (take_ofW HT_.out HW_.out (by kernel_rfl)) (fun _ _ _ h => h) (Or.inl ⟨by rfl, ?_⟩) hHeld ?_ ?_
              rotate_left
              ·rintro w' ⟨s0, s1, s2, s3, s4, s5, s6, s7, s8, s9, s10, s11⟩
               go_simp
               with_reducible rfl
              rotate_left
              ·simp only [Act.put, List.setIfInBounds_toArray, List.set_cons_zero, List.set_cons_succ, i64_w, i32_w]
               rfl
              refine pT_ HT_.out 22 42 (bs 44 8388607) ?_
              refine pT_ HT_.out 23 43 (bs 44 16777215) ?_
              refine pT_ HT_.out 24 44 (bs 44 33554431) ?_
              refine pT_ HT_.out 25 45 (bs 44 67108863) ?_
              refine pT_ HT_.out 26 46 (bs 44 134217727) ?_
              refine pT_ HT_.out 27 47 (bs 44 268435455) ?_
              refine pT_ HT_.out 28 48 (bs 44 536870911) ?_
              refine pT_ HT_.out 29 49 (bs 44 1073741823) ?_
              refine pT_ HT_.out 31 51 (bs 44 3221225471) ?_
              refine pT_ HT_.out 32 52 (bs 44 7516192767) ?_
              refine pT_ HT_.out 33 53 (bs 44 16106127359) ?_
              refine take_ (i := 30) (N := some 50) (v := ?_) (a' := ?_) (bs 44 17179869183) rfl rfl (take_ofW HT_.out HW_.out (by kernel_rfl)) (fun _ _ _ h => h) (Or.inl ⟨by rfl, ?_⟩) hHeld ?_ ?_
              rotate_left
              ·rintro w' ⟨s0, s1, s2, s3, s4, s5, s6, s7, s8, s9, s10, s11⟩
               go_simp
               with_reducible rfl
              rotate_left
              ·simp only [Act.put, List.setIfInBounds_toArray, List.set_cons_zero, List.set_cons_succ, i64_w, i32_w]
               rfl
              refine one_ (i := 34) (N := some 54) (bs 44 34359738367) rfl rfl (one_of HT_.out (by kernel_rfl)) (by decide) (fun K hK => ?_)
              refine goes_ Tryd.func40 (by kernel_rfl) rfl #[.int .i64 ((rd_T46 l1 x5_2).f1), .int .i64 0, .int .i64 (wrap64 ((l0.length : Int) - 1))] (by rfl) rfl rfl (by (try simp only [List.map_toArray, List.map_cons, List.map_nil]); first | done | rfl | (simp only [List.length_drop, List.length_take]; rfl)) ?_
              with_reducible refine (spec_inRange.calls ((rd_T46 l1 x5_2).f1) 0 (wrap64 ((l0.length : Int) - 1)) false _ A19.out).mono ?_
              rintro e w' ⟨rfl, ⟨nd, rfl⟩⟩
              refine ⟨_, rfl, ?_⟩
              refine hK.out _ _ ⟨((HB.out.cell (World.block_lt_of_cell? w _ hw178_0)).trans hw178_0), ((HB.out.cell (World.block_lt_of_cell? w _ hw178_1)).trans hw178_1), ((HB.out.cell (World.block_lt_of_cell? w _ hw178_2)).trans hw178_2), ((HB.out.cell (World.block_lt_of_cell? w _ hw180_0)).trans hw180_0), ((HB.out.cell (World.block_lt_of_cell? w _ hw180_1)).trans hw180_1), ((HB.out.cell (World.block_lt_of_cell? w _ hw180_2)).trans hw180_2), ((HB.out.cell (World.block_lt_of_cell? w _ hw181_0)).trans hw181_0), ((HB.out.cell (World.block_lt_of_cell? w _ hw181_1)).trans hw181_1), ((HB.out.cell (World.block_lt_of_cell? w _ hw181_2)).trans hw181_2), ((HB.out.cell (World.block_lt_of_cell? w _ hw182_0)).trans hw182_0), ((HB.out.cell (World.block_lt_of_cell? w _ hw182_1)).trans hw182_1), ((HB.out.cell (World.block_lt_of_cell? w _ hw182_2)).trans hw182_2)⟩ (fun hHeld => ?_)
              clear hK K
              refine norm_ (a' := ?_) ?_ ?_
              rotate_left
              ·show Act.put _ (some 54) _ = _
               simp only [Act.put, List.setIfInBounds_toArray, List.set_cons_zero, List.set_cons_succ, i64_w, i32_w]
               rfl
              refine pT_ HT_.out 35 55 (bs 44 68719476735) ?_
              refine pT_ HT_.out 36 56 (bs 44 137438953471) ?_
              refine pT_ HT_.out 37 57 (bs 44 274877906943) ?_
              refine pU_ HT_.out 38 58 (bs 44 549755813887) ?_
              refine pU_ HT_.out 39 59 (bs 44 1099511627775) ?_
              refine pU_ HT_.out 40 60 (bs 44 2199023255551) ?_
              refine pU_ HT_.out 41 61 (bs 44 4398046511103) ?_
              refine pU_ HT_.out 42 62 (bs 44 8796093022207) ?_
              refine pT_ HT_.out 43 63 (bs 44 17592186044415) ?_
              refine done_ (done_of HT_.out (by kernel_rfl)) ?_
              try go_wp2
              go_ret
              exact ⟨by first | rfl | (simp [errW_none, errW_some] <;> rfl) | (simp only [← hji14]; first | rfl | (simp [errW_none, errW_some] <;> rfl)) | (simp [*, errW_none, errW_some] <;> rfl), blw_⟩
           ·rw [if_neg c16] at H
            exact absurd H (by simp)
          ·rw [if_neg c15] at H
           exact absurd H (by simp)
         ·rw [if_neg c13] at H
          have c13b0 : decide (0 < x5_2) = false := decide_eq_false c13
          clear c13
          replace H := Option.bind_eq_some_iff.mp H
          obtain ⟨t186, A280, H⟩ := H
          replace H : (if t186 = true then ((spec_eventFits.f k2 l0 l1 x5_2).bind fun t187 => (if t187 = true then (spec_validLog.l0 k2 l0 l1 (wrap64 (x5_2 + 1))) else (some false))) else (some false)) = some r := H
          have A28 := Aside0.mk A280
          clear A280
          by_cases c29 : t186 = true
          ·subst c29
           have H1 : ((spec_eventFits.f k2 l0 l1 x5_2).bind fun t187 => (if t187 = true then (spec_validLog.l0 k2 l0 l1 (wrap64 (x5_2 + 1))) else (some false))) = some r := by rw [if_pos rfl] at H; exact H
           clear H
           have H := H1
           clear H1
           replace H := Option.bind_eq_some_iff.mp H
           obtain ⟨t187, A300, H⟩ := H
           replace H : (if t187 = true then (spec_validLog.l0 k2 l0 l1 (wrap64 (x5_2 + 1))) else (some false)) = some r := H
           have A30 := Aside0.mk A300
           clear A300
           by_cases c31 : t187 = true
           ·subst c31
            have H1 : (spec_validLog.l0 k2 l0 l1 (wrap64 (x5_2 + 1))) = some r := by rw [if_pos rfl] at H; exact H
            clear H
            have H := H1
            clear H1
            have H' := Aside0.mk H
            clear H
            try go_wp2
            have n0_ := Aside0.mk (below_drew1 HB.out)
            clear HB
            have HB := n0_
            clear n0_
            have p178 : 0 ≤ (x5_2 : Int) := of_decide_eq_true (by first | (with_reducible assumption) | assumption)
            have q178 : x5_2 < (l1.length : Int) := of_decide_eq_true (by first | (with_reducible assumption) | assumption)
            obtain ⟨ad178, e178, hx178_0, hx178_1, hx178_2⟩ := at_T46 HR1.out x5_2 p178 q178
            have hw178_2 := hx178_2
            have hw178_1 := hx178_1
            have hw178_0 := hx178_0
            cases e178
            replace hx178_0 := (HB.out.cell (World.block_lt_of_cell? w _ hx178_0)).trans hx178_0
            replace hx178_1 := (HB.out.cell (World.block_lt_of_cell? w _ hx178_1)).trans hx178_1
            replace hx178_2 := (HB.out.cell (World.block_lt_of_cell? w _ hx178_2)).trans hx178_2
            replace p178 := eq_true p178
            replace q178 := eq_true q178
            have p185 : 0 ≤ (x5_2 : Int) := of_decide_eq_true (by first | (with_reducible assumption) | assumption)
            have q185 : x5_2 < (l1.length : Int) := of_decide_eq_true (by first | (with_reducible assumption) | assumption)
            obtain ⟨ad185, e185, hx185_0, hx185_1, hx185_2⟩ := at_T46 HR1.out x5_2 p185 q185
            have hw185_2 := hx185_2
            have hw185_1 := hx185_1
            have hw185_0 := hx185_0
            obtain rfl : ad178 = ad185 := (by injection e185)
            replace hx185_0 := (HB.out.cell (World.block_lt_of_cell? w _ hx185_0)).trans hx185_0
            replace hx185_1 := (HB.out.cell (World.block_lt_of_cell? w _ hx185_1)).trans hx185_1
            replace hx185_2 := (HB.out.cell (World.block_lt_of_cell? w _ hx185_2)).trans hx185_2
            replace p185 := eq_true p185
            replace q185 := eq_true q185
            refine start_ (n := 44) (S := fun w' => w'.cell? (ad178.add ((x5_2).toNat * 3)) = some (.int .i64 ((rd_T46 l1 x5_2).f0)) ∧ w'.cell? ⟨(ad178.add ((x5_2).toNat * 3)).block, (ad178.add ((x5_2).toNat * 3)).off + 1, none⟩ = some (.int .i64 ((rd_T46 l1 x5_2).f1)) ∧ w'.cell? ⟨(ad178.add ((x5_2).toNat * 3)).block, (ad178.add ((x5_2).toNat * 3)).off + 2, none⟩ = some (.bool ((rd_T46 l1 x5_2).f2)) ∧ w'.cell? (ad178.add ((x5_2).toNat * 3)) = some (.int .i64 ((rd_T46 l1 x5_2).f0)) ∧ w'.cell? ⟨(ad178.add ((x5_2).toNat * 3)).block, (ad178.add ((x5_2).toNat * 3)).off + 1, none⟩ = some (.int .i64 ((rd_T46 l1 x5_2).f1)) ∧ w'.cell? ⟨(ad178.add ((x5_2).toNat * 3)).block, (ad178.add ((x5_2).toNat * 3)).off + 2, none⟩ = some (.bool ((rd_T46 l1 x5_2).f2))) (ds := []) (bs 44 0) (by kernel_rfl) rfl (by kernel_rfl) ⟨((HB.out.cell (World.block_lt_of_cell? w _ hw178_0)).trans hw178_0), ((HB.out.cell (World.block_lt_of_cell? w _ hw178_1)).trans hw178_1), ((HB.out.cell (World.block_lt_of_cell? w _ hw178_2)).trans hw178_2), ((HB.out.cell (World.block_lt_of_cell? w _ hw185_0)).trans hw185_0), ((HB.out.cell (World.block_lt_of_cell? w _ hw185_1)).trans hw185_1), ((HB.out.cell (World.block_lt_of_cell? w _ hw185_2)).trans hw185_2)⟩ (fun hHeld => ?_); refine with_tabW spec_validLog.tab6 spec_validLog.bits6 (fun HT_ HW_ => ?_)
            generalize wr.drew = w32 at HB hx178_0 hx178_1 hx178_2 hx185_0 hx185_1 hx185_2 hHeld ⊢
            refine pT_ HT_.out 0 20 (bs 44 1) ?_
            refine pT_ HT_.out 1 21 (bs 44 3) ?_
            refine pT_ HT_.out 2 22 (bs 44 7) ?_
            refine pT_ HT_.out 3 23 (bs 44 15) ?_
            refine take_ (i := 4) (N := some 24) (v := ?_) (a' := ?_) (bs 44 31) rfl rfl (take_ofW HT_.out HW_.out (by kernel_rfl)) (fun _ _ _ h => h) (Or.inl ⟨by rfl, ?_⟩) hHeld ?_ ?_
            rotate_left
            ·rintro w' ⟨s0, s1, s2, s3, s4, s5⟩
             go_simp
             with_reducible rfl
            rotate_left
            ·simp only [Act.put, List.setIfInBounds_toArray, List.set_cons_zero, List.set_cons_succ, i64_w, i32_w]
             rfl
            refine one_ (i := 5) (N := some 25) (bs 44 63) rfl rfl (one_of HT_.out (by kernel_rfl)) (by decide) (fun K hK => ?_)
            refine goes_ Tryd.func40 (by kernel_rfl) rfl #[.int .i64 ((rd_T46 l1 x5_2).f0), .int .i64 0, .int .i64 200] (by rfl) rfl rfl (by (try simp only [List.map_toArray, List.map_cons, List.map_nil]); first | done | rfl | (simp only [List.length_drop, List.length_take]; rfl)) ?_
            with_reducible refine (spec_inRange.calls ((rd_T46 l1 x5_2).f0) 0 200 true _ A11.out).mono ?_
            rintro e w' ⟨rfl, ⟨nd, rfl⟩⟩
            refine ⟨_, rfl, ?_⟩
            refine hK.out _ _ ⟨((HB.out.cell (World.block_lt_of_cell? w _ hw178_0)).trans hw178_0), ((HB.out.cell (World.block_lt_of_cell? w _ hw178_1)).trans hw178_1), ((HB.out.cell (World.block_lt_of_cell? w _ hw178_2)).trans hw178_2), ((HB.out.cell (World.block_lt_of_cell? w _ hw185_0)).trans hw185_0), ((HB.out.cell (World.block_lt_of_cell? w _ hw185_1)).trans hw185_1), ((HB.out.cell (World.block_lt_of_cell? w _ hw185_2)).trans hw185_2)⟩ (fun hHeld => ?_)
            clear hK K
            refine norm_ (a' := ?_) ?_ ?_
            rotate_left
            ·show Act.put _ (some 25) _ = _
             simp only [Act.put, List.setIfInBounds_toArray, List.set_cons_zero, List.set_cons_succ, i64_w, i32_w]
             rfl
            refine pT_ HT_.out 6 26 (bs 44 127) ?_
            refine pT_ HT_.out 7 27 (bs 44 255) ?_
            refine pT_ HT_.out 8 28 (bs 44 511) ?_
            refine pT_ HT_.out 9 29 (bs 44 1023) ?_
            refine pT_ HT_.out 10 30 (bs 44 2047) ?_
            refine pU_ HT_.out 11 31 (bs 44 4095) ?_
            refine pU_ HT_.out 12 32 (bs 44 8191) ?_
            refine pU_ HT_.out 13 33 (bs 44 16383) ?_
            refine pU_ HT_.out 14 34 (bs 44 32767) ?_
            refine pU_ HT_.out 15 35 (bs 44 65535) ?_
            refine pU_ HT_.out 16 36 (bs 44 131071) ?_
            refine pU_ HT_.out 17 37 (bs 44 262143) ?_
            refine pU_ HT_.out 18 38 (bs 44 524287) ?_
            refine pU_ HT_.out 19 39 (bs 44 1048575) ?_
            refine pU_ HT_.out 20 40 (bs 44 2097151) ?_
            refine pU_ HT_.out 21 41 (bs 44 4194303) ?_
            refine pU_ HT_.out 22 42 (bs 44 8388607) ?_
            refine pT_ HT_.out 23 43 (bs 44 16777215) ?_
            refine pT_ HT_.out 24 44 (bs 44 33554431) ?_
            refine pT_ HT_.out 25 45 (bs 44 67108863) ?_
            refine pT_ HT_.out 26 46 (bs 44 134217727) ?_
            refine pT_ HT_.out 27 47 (bs 44 268435455) ?_
            refine pT_ HT_.out 28 48 (bs 44 536870911) ?_
            refine pT_ HT_.out 29 49 (bs 44 1073741823) ?_
            refine pT_ HT_.out 31 51 (bs 44 3221225471) ?_
            refine pT_ HT_.out 32 52 (bs 44 7516192767) ?_
            refine pT_ HT_.out 33 53 (bs 44 16106127359) ?_
            refine take_ (i := 30) (N := some 50) (v := ?_) (a' := ?_) (bs 44 17179869183) rfl rfl (take_ofW HT_.out HW_.out (by kernel_rfl)) (fun _ _ _ h => h) (Or.inl ⟨by rfl, ?_⟩) hHeld ?_ ?_
            rotate_left
            ·rintro w' ⟨s0, s1, s2, s3, s4, s5⟩
             go_simp
             with_reducible rfl
            rotate_left
            ·simp only [Act.put, List.setIfInBounds_toArray, List.set_cons_zero, List.set_cons_succ, i64_w, i32_w]
             rfl
            refine one_ (i := 34) (N := some 54) (bs 44 34359738367) rfl rfl (one_of HT_.out (by kernel_rfl)) (by decide) (fun K hK => ?_)
            refine goes_ Tryd.func40 (by kernel_rfl) rfl #[.int .i64 ((rd_T46 l1 x5_2).f1), .int .i64 0, .int .i64 (wrap64 ((l0.length : Int) - 1))] (by rfl) rfl rfl (by (try simp only [List.map_toArray, List.map_cons, List.map_nil]); first | done | rfl | (simp only [List.length_drop, List.length_take]; rfl)) ?_
            with_reducible refine (spec_inRange.calls ((rd_T46 l1 x5_2).f1) 0 (wrap64 ((l0.length : Int) - 1)) true _ A28.out).mono ?_
            rintro e w' ⟨rfl, ⟨nd, rfl⟩⟩
            refine ⟨_, rfl, ?_⟩
            refine hK.out _ _ ⟨((HB.out.cell (World.block_lt_of_cell? w _ hw178_0)).trans hw178_0), ((HB.out.cell (World.block_lt_of_cell? w _ hw178_1)).trans hw178_1), ((HB.out.cell (World.block_lt_of_cell? w _ hw178_2)).trans hw178_2), ((HB.out.cell (World.block_lt_of_cell? w _ hw185_0)).trans hw185_0), ((HB.out.cell (World.block_lt_of_cell? w _ hw185_1)).trans hw185_1), ((HB.out.cell (World.block_lt_of_cell? w _ hw185_2)).trans hw185_2)⟩ (fun hHeld => ?_)
            clear hK K
            refine norm_ (a' := ?_) ?_ ?_
            rotate_left
            ·show Act.put _ (some 54) _ = _
             simp only [Act.put, List.setIfInBounds_toArray, List.set_cons_zero, List.set_cons_succ, i64_w, i32_w]
             rfl
            refine pT_ HT_.out 35 55 (bs 44 68719476735) ?_
            refine pT_ HT_.out 36 56 (bs 44 137438953471) ?_
            refine pT_ HT_.out 37 57 (bs 44 274877906943) ?_
            refine pT_ HT_.out 38 58 (bs 44 549755813887) ?_
            refine pT_ HT_.out 39 59 (bs 44 1099511627775) ?_
            refine pT_ HT_.out 40 60 (bs 44 2199023255551) ?_
            refine one_ (i := 41) (N := some 61) (bs 44 4398046511103) rfl rfl (one_of HT_.out (by kernel_rfl)) (by decide) (fun K hK => ?_)
            refine goes_ Tryd.func41 (by kernel_rfl) rfl #[.slice A0 l0.length c0, .slice (some ad178) l1.length c1, .int .i64 x5_2] (by rfl) rfl rfl (by (try simp only [List.map_toArray, List.map_cons, List.map_nil]); first | done | rfl | (simp only [List.length_drop, List.length_take]; rfl)) ?_
            with_reducible refine (spec_eventFits.calls k2 _ _ l0 _ _ l1 x5_2 true _ ?side1 ?side2 ?side3 ?side4 A30.out).mono ?_
            (case side1 => exact cw_ (Kd.C_below HR0.out blw_))
            (case side2 => exact HC0.out)
            (case side3 => exact cw_ (Kd.C_below HR1.out blw_))
            (case side4 => exact HC1.out)
            rintro e w33 ⟨rfl, hb⟩
            refine ⟨_, rfl, ?_⟩
            have n0_ := Aside0.mk (below_step blw_ hb)
            clear HB
            have HB := n0_
            clear n0_
            (try clear hb)
            (try clear hb2)
            (try clear hk)
            (try clear hi)
            refine hK.out _ _ ⟨((HB.out.cell (World.block_lt_of_cell? w _ hw178_0)).trans hw178_0), ((HB.out.cell (World.block_lt_of_cell? w _ hw178_1)).trans hw178_1), ((HB.out.cell (World.block_lt_of_cell? w _ hw178_2)).trans hw178_2), ((HB.out.cell (World.block_lt_of_cell? w _ hw185_0)).trans hw185_0), ((HB.out.cell (World.block_lt_of_cell? w _ hw185_1)).trans hw185_1), ((HB.out.cell (World.block_lt_of_cell? w _ hw185_2)).trans hw185_2)⟩ (fun hHeld => ?_)
            clear hK K
            refine norm_ (a' := ?_) ?_ ?_
            rotate_left
            ·show Act.put _ (some 61) _ = _
             simp only [Act.put, List.setIfInBounds_toArray, List.set_cons_zero, List.set_cons_succ, i64_w, i32_w]
             rfl
            refine pT_ HT_.out 42 62 (bs 44 8796093022207) ?_
            refine pT_ HT_.out 43 63 (bs 44 17592186044415) ?_
            refine done_ (done_of HT_.out (by kernel_rfl)) ?_
            try go_wp2
            go_roundg k2
            case measure => have := HJ2.out; have := HK2.out; omega
            case rel => exact ⟨(wrap64 (x5_2 + 1)), (by first | rfl | (simp; done) | (simp [*]; done)), H', ⟨by have := HJ2.out; have := HK2.out; omega⟩, ⟨blw_⟩⟩
           ·replace c31 := Bool.eq_false_iff.mpr c31
            subst c31
            have H1 : (some false) = some r := by rw [if_neg (show ¬ (false = true) by decide)] at H; exact H
            clear H
            have H := H1
            clear H1
            obtain rfl := Option.some.inj H
            try go_wp2
            have n0_ := Aside0.mk (below_drew1 HB.out)
            clear HB
            have HB := n0_
            clear n0_
            have p178 : 0 ≤ (x5_2 : Int) := of_decide_eq_true (by first | (with_reducible assumption) | assumption)
            have q178 : x5_2 < (l1.length : Int) := of_decide_eq_true (by first | (with_reducible assumption) | assumption)
            obtain ⟨ad178, e178, hx178_0, hx178_1, hx178_2⟩ := at_T46 HR1.out x5_2 p178 q178
            have hw178_2 := hx178_2
            have hw178_1 := hx178_1
            have hw178_0 := hx178_0
            cases e178
            replace hx178_0 := (HB.out.cell (World.block_lt_of_cell? w _ hx178_0)).trans hx178_0
            replace hx178_1 := (HB.out.cell (World.block_lt_of_cell? w _ hx178_1)).trans hx178_1
            replace hx178_2 := (HB.out.cell (World.block_lt_of_cell? w _ hx178_2)).trans hx178_2
            replace p178 := eq_true p178
            replace q178 := eq_true q178
            have p185 : 0 ≤ (x5_2 : Int) := of_decide_eq_true (by first | (with_reducible assumption) | assumption)
            have q185 : x5_2 < (l1.length : Int) := of_decide_eq_true (by first | (with_reducible assumption) | assumption)
            obtain ⟨ad185, e185, hx185_0, hx185_1, hx185_2⟩ := at_T46 HR1.out x5_2 p185 q185
            have hw185_2 := hx185_2
            have hw185_1 := hx185_1
            have hw185_0 := hx185_0
            obtain rfl : ad178 = ad185 := (by injection e185)
            replace hx185_0 := (HB.out.cell (World.block_lt_of_cell? w _ hx185_0)).trans hx185_0
            replace hx185_1 := (HB.out.cell (World.block_lt_of_cell? w _ hx185_1)).trans hx185_1
            replace hx185_2 := (HB.out.cell (World.block_lt_of_cell? w _ hx185_2)).trans hx185_2
            replace p185 := eq_true p185
            replace q185 := eq_true q185
            refine start_ (n := 44) (S := fun w' => w'.cell? (ad178.add ((x5_2).toNat * 3)) = some (.int .i64 ((rd_T46 l1 x5_2).f0)) ∧ w'.cell? ⟨(ad178.add ((x5_2).toNat * 3)).block, (ad178.add ((x5_2).toNat * 3)).off + 1, none⟩ = some (.int .i64 ((rd_T46 l1 x5_2).f1)) ∧ w'.cell? ⟨(ad178.add ((x5_2).toNat * 3)).block, (ad178.add ((x5_2).toNat * 3)).off + 2, none⟩ = some (.bool ((rd_T46 l1 x5_2).f2)) ∧ w'.cell? (ad178.add ((x5_2).toNat * 3)) = some (.int .i64 ((rd_T46 l1 x5_2).f0)) ∧ w'.cell? ⟨(ad178.add ((x5_2).toNat * 3)).block, (ad178.add ((x5_2).toNat * 3)).off + 1, none⟩ = some (.int .i64 ((rd_T46 l1 x5_2).f1)) ∧ w'.cell? ⟨(ad178.add ((x5_2).toNat * 3)).block, (ad178.add ((x5_2).toNat * 3)).off + 2, none⟩ = some (.bool ((rd_T46 l1 x5_2).f2))) (ds := []) (bs 44 0) (by kernel_rfl) rfl (by kernel_rfl) ⟨((HB.out.cell (World.block_lt_of_cell? w _ hw178_0)).trans hw178_0), ((HB.out.cell (World.block_lt_of_cell? w _ hw178_1)).trans hw178_1), ((HB.out.cell (World.block_lt_of_cell? w _ hw178_2)).trans hw178_2), ((HB.out.cell (World.block_lt_of_cell? w _ hw185_0)).trans hw185_0), ((HB.out.cell (World.block_lt_of_cell? w _ hw185_1)).trans hw185_1), ((HB.out.cell (World.block_lt_of_cell? w _ hw185_2)).trans hw185_2)⟩ (fun hHeld => ?_); refine with_tabW spec_validLog.tab6 spec_validLog.bits6 (fun HT_ HW_ => ?_)
            generalize wr.drew = w34 at HB hx178_0 hx178_1 hx178_2 hx185_0 hx185_1 hx185_2 hHeld ⊢
            refine pT_ HT_.out 0 20 (bs 44 1) ?_
            refine pT_ HT_.out 1 21 (bs 44 3) ?_
            refine pT_ HT_.out 2 22 (bs 44 7) ?_
            refine pT_ HT_.out 3 23 (bs 44 15) ?_
            refine take_ (i := 4) (N := some 24) (v := ?_) (a' := ?_) (bs 44 31) rfl rfl (take_ofW HT_.out HW_.out (by kernel_rfl)) (fun _ _ _ h => h) (Or.inl ⟨by rfl, ?_⟩) hHeld ?_ ?_
            rotate_left
            ·rintro w' ⟨s0, s1, s2, s3, s4, s5⟩
             go_simp
             with_reducible rfl
            rotate_left
            ·simp only [Act.put, List.setIfInBounds_toArray, List.set_cons_zero, List.set_cons_succ, i64_w, i32_w]
             rfl
            refine one_ (i := 5) (N := some 25) (bs 44 63) rfl rfl (one_of HT_.out (by kernel_rfl)) (by decide) (fun K hK => ?_)
            refine goes_ Tryd.func40 (by kernel_rfl) rfl #[.int .i64 ((rd_T46 l1 x5_2).f0), .int .i64 0, .int .i64 200] (by rfl) rfl rfl (by (try simp only [List.map_toArray, List.map_cons, List.map_nil]); first | done | rfl | (simp only [List.length_drop, List.length_take]; rfl)) ?_
            with_reducible refine (spec_inRange.calls ((rd_T46 l1 x5_2).f0) 0 200 true _ A11.out).mono ?_
            rintro e w' ⟨rfl, ⟨nd, rfl⟩⟩
            refine ⟨_, rfl, ?_⟩
            refine hK.out _ _ ⟨((HB.out.cell (World.block_lt_of_cell? w _ hw178_0)).trans hw178_0), ((HB.out.cell (World.block_lt_of_cell? w _ hw178_1)).trans hw178_1), ((HB.out.cell (World.block_lt_of_cell? w _ hw178_2)).trans hw178_2), ((HB.out.cell (World.block_lt_of_cell? w _ hw185_0)).trans hw185_0), ((HB.out.cell (World.block_lt_of_cell? w _ hw185_1)).trans hw185_1), ((HB.out.cell (World.block_lt_of_cell? w _ hw185_2)).trans hw185_2)⟩ (fun hHeld => ?_)
            clear hK K
            refine norm_ (a' := ?_) ?_ ?_
            rotate_left
            ·show Act.put _ (some 25) _ = _
             simp only [Act.put, List.setIfInBounds_toArray, List.set_cons_zero, List.set_cons_succ, i64_w, i32_w]
             rfl
            refine pT_ HT_.out 6 26 (bs 44 127) ?_
            refine pT_ HT_.out 7 27 (bs 44 255) ?_
            refine pT_ HT_.out 8 28 (bs 44 511) ?_
            refine pT_ HT_.out 9 29 (bs 44 1023) ?_
            refine pT_ HT_.out 10 30 (bs 44 2047) ?_
            refine pU_ HT_.out 11 31 (bs 44 4095) ?_
            refine pU_ HT_.out 12 32 (bs 44 8191) ?_
            refine pU_ HT_.out 13 33 (bs 44 16383) ?_
            refine pU_ HT_.out 14 34 (bs 44 32767) ?_
            refine pU_ HT_.out 15 35 (bs 44 65535) ?_
            refine pU_ HT_.out 16 36 (bs 44 131071) ?_
            refine pU_ HT_.out 17 37 (bs 44 262143) ?_
            refine pU_ HT_.out 18 38 (bs 44 524287) ?_
            refine pU_ HT_.out 19 39 (bs 44 1048575) ?_
            refine pU_ HT_.out 20 40 (bs 44 2097151) ?_
            refine pU_ HT_.out 21 41 (bs 44 4194303) ?_
            refine pU_ HT_.out 22 42 (bs 44 8388607) ?_
            refine pT_ HT_.out 23 43 (bs 44 16777215) ?_
            refine pT_ HT_.out 24 44 (bs 44 33554431) ?_
            refine pT_ HT_.out 25 45 (bs 44 67108863) ?_
            refine pT_ HT_.out 26 46 (bs 44 134217727) ?_
            refine pT_ HT_.out 27 47 (bs 44 268435455) ?_
            refine pT_ HT_.out 28 48 (bs 44 536870911) ?_
            refine pT_ HT_.out 29 49 (bs 44 1073741823) ?_
            refine pT_ HT_.out 31 51 (bs 44 3221225471) ?_
            refine pT_ HT_.out 32 52 (bs 44 7516192767) ?_
            refine pT_ HT_.out 33 53 (bs 44 16106127359) ?_
            refine take_ (i := 30) (N := some 50) (v := ?_) (a' := ?_) (bs 44 17179869183) rfl rfl (take_ofW HT_.out HW_.out (by kernel_rfl)) (fun _ _ _ h => h) (Or.inl ⟨by rfl, ?_⟩) hHeld ?_ ?_
            rotate_left
            ·rintro w' ⟨s0, s1, s2, s3, s4, s5⟩
             go_simp
             with_reducible rfl
            rotate_left
            ·simp only [Act.put, List.setIfInBounds_toArray, List.set_cons_zero, List.set_cons_succ, i64_w, i32_w]
             rfl
            refine one_ (i := 34) (N := some 54) (bs 44 34359738367) rfl rfl (one_of HT_.out (by kernel_rfl)) (by decide) (fun K hK => ?_)
            refine goes_ Tryd.func40 (by kernel_rfl) rfl #[.int .i64 ((rd_T46 l1 x5_2).f1), .int .i64 0, .int .i64 (wrap64 ((l0.length : Int) - 1))] (by rfl) rfl rfl (by (try simp only [List.map_toArray, List.map_cons, List.map_nil]); first | done | rfl | (simp only [List.length_drop, List.length_take]; rfl)) ?_
            with_reducible refine (spec_inRange.calls ((rd_T46 l1 x5_2).f1) 0 (wrap64 ((l0.length : Int) - 1)) true _ A28.out).mono ?_
            rintro e w' ⟨rfl, ⟨nd, rfl⟩⟩
            refine ⟨_, rfl, ?_⟩
            refine hK.out _ _ ⟨((HB.out.cell (World.block_lt_of_cell? w _ hw178_0)).trans hw178_0), ((HB.out.cell (World.block_lt_of_cell? w _ hw178_1)).trans hw178_1), ((HB.out.cell (World.block_lt_of_cell? w _ hw178_2)).trans hw178_2), ((HB.out.cell (World.block_lt_of_cell? w _ hw185_0)).trans hw185_0), ((HB.out.cell (World.block_lt_of_cell? w _ hw185_1)).trans hw185_1), ((HB.out.cell (World.block_lt_of_cell? w _ hw185_2)).trans hw185_2)⟩ (fun hHeld => ?_)
            clear hK K
            refine norm_ (a' := ?_) ?_ ?_
            rotate_left
            ·show Act.put _ (some 54) _ = _
             simp only [Act.put, List.setIfInBounds_toArray, List.set_cons_zero, List.set_cons_succ, i64_w, i32_w]
             rfl
            refine pT_ HT_.out 35 55 (bs 44 68719476735) ?_
            refine pT_ HT_.out 36 56 (bs 44 137438953471) ?_
            refine pT_ HT_.out 37 57 (bs 44 274877906943) ?_
            refine pT_ HT_.out 38 58 (bs 44 549755813887) ?_
            refine pT_ HT_.out 39 59 (bs 44 1099511627775) ?_
            refine pT_ HT_.out 40 60 (bs 44 2199023255551) ?_
            refine one_ (i := 41) (N := some 61) (bs 44 4398046511103) rfl rfl (one_of HT_.out (by kernel_rfl)) (by decide) (fun K hK => ?_)
            refine goes_ Tryd.func41 (by kernel_rfl) rfl #[.slice A0 l0.length c0, .slice (some ad178) l1.length c1, .int .i64 x5_2] (by rfl) rfl rfl (by (try simp only [List.map_toArray, List.map_cons, List.map_nil]); first | done | rfl | (simp only [List.length_drop, List.length_take]; rfl)) ?_
            with_reducible refine (spec_eventFits.calls k2 _ _ l0 _ _ l1 x5_2 false _ ?side1 ?side2 ?side3 ?side4 A30.out).mono ?_
            (case side1 => exact cw_ (Kd.C_below HR0.out blw_))
            (case side2 => exact HC0.out)
            (case side3 => exact cw_ (Kd.C_below HR1.out blw_))
            (case side4 => exact HC1.out)
            rintro e w35 ⟨rfl, hb⟩
            refine ⟨_, rfl, ?_⟩
            have n0_ := Aside0.mk (below_step blw_ hb)
            clear HB
            have HB := n0_
            clear n0_
            (try clear hb)
            (try clear hb2)
            (try clear hk)
            (try clear hi)
            refine hK.out _ _ ⟨((HB.out.cell (World.block_lt_of_cell? w _ hw178_0)).trans hw178_0), ((HB.out.cell (World.block_lt_of_cell? w _ hw178_1)).trans hw178_1), ((HB.out.cell (World.block_lt_of_cell? w _ hw178_2)).trans hw178_2), ((HB.out.cell (World.block_lt_of_cell? w _ hw185_0)).trans hw185_0), ((HB.out.cell (World.block_lt_of_cell? w _ hw185_1)).trans hw185_1), ((HB.out.cell (World.block_lt_of_cell? w _ hw185_2)).trans hw185_2)⟩ (fun hHeld => ?_)
            clear hK K
            refine norm_ (a' := ?_) ?_ ?_
            rotate_left
            ·show Act.put _ (some 61) _ = _
             simp only [Act.put, List.setIfInBounds_toArray, List.set_cons_zero, List.set_cons_succ, i64_w, i32_w]
             rfl
            refine pT_ HT_.out 42 62 (bs 44 8796093022207) ?_
            refine pT_ HT_.out 43 63 (bs 44 17592186044415) ?_
            refine done_ (done_of HT_.out (by kernel_rfl)) ?_
            try go_wp2
            go_ret
            exact ⟨by first | rfl | (simp [errW_none, errW_some] <;> rfl) | (simp [*, errW_none, errW_some] <;> rfl), blw_⟩
          ·replace c29 := Bool.eq_false_iff.mpr c29
           subst c29
           have H1 : (some false) = some r := by rw [if_neg (show ¬ (false = true) by decide)] at H; exact H
           clear H
           have H := H1
           clear H1
           obtain rfl := Option.some.inj H
           try go_wp2
           have n0_ := Aside0.mk (below_drew1 HB.out)
           clear HB
           have HB := n0_
           clear n0_
           have p178 : 0 ≤ (x5_2 : Int) := of_decide_eq_true (by first | (with_reducible assumption) | assumption)
           have q178 : x5_2 < (l1.length : Int) := of_decide_eq_true (by first | (with_reducible assumption) | assumption)
           obtain ⟨ad178, e178, hx178_0, hx178_1, hx178_2⟩ := at_T46 HR1.out x5_2 p178 q178
           have hw178_2 := hx178_2
           have hw178_1 := hx178_1
           have hw178_0 := hx178_0
           cases e178
           replace hx178_0 := (HB.out.cell (World.block_lt_of_cell? w _ hx178_0)).trans hx178_0
           replace hx178_1 := (HB.out.cell (World.block_lt_of_cell? w _ hx178_1)).trans hx178_1
           replace hx178_2 := (HB.out.cell (World.block_lt_of_cell? w _ hx178_2)).trans hx178_2
           replace p178 := eq_true p178
           replace q178 := eq_true q178
           have p185 : 0 ≤ (x5_2 : Int) := of_decide_eq_true (by first | (with_reducible assumption) | assumption)
           have q185 : x5_2 < (l1.length : Int) := of_decide_eq_true (by first | (with_reducible assumption) | assumption)
           obtain ⟨ad185, e185, hx185_0, hx185_1, hx185_2⟩ := at_T46 HR1.out x5_2 p185 q185
           have hw185_2 := hx185_2
           have hw185_1 := hx185_1
           have hw185_0 := hx185_0
           obtain rfl : ad178 = ad185 := (by injection e185)
           replace hx185_0 := (HB.out.cell (World.block_lt_of_cell? w _ hx185_0)).trans hx185_0
           replace hx185_1 := (HB.out.cell (World.block_lt_of_cell? w _ hx185_1)).trans hx185_1
           replace hx185_2 := (HB.out.cell (World.block_lt_of_cell? w _ hx185_2)).trans hx185_2
           replace p185 := eq_true p185
           replace q185 := eq_true q185
           refine start_ (n := 44) (S := fun w' => w'.cell? (ad178.add ((x5_2).toNat * 3)) = some (.int .i64 ((rd_T46 l1 x5_2).f0)) ∧ w'.cell? ⟨(ad178.add ((x5_2).toNat * 3)).block, (ad178.add ((x5_2).toNat * 3)).off + 1, none⟩ = some (.int .i64 ((rd_T46 l1 x5_2).f1)) ∧ w'.cell? ⟨(ad178.add ((x5_2).toNat * 3)).block, (ad178.add ((x5_2).toNat * 3)).off + 2, none⟩ = some (.bool ((rd_T46 l1 x5_2).f2)) ∧ w'.cell? (ad178.add ((x5_2).toNat * 3)) = some (.int .i64 ((rd_T46 l1 x5_2).f0)) ∧ w'.cell? ⟨(ad178.add ((x5_2).toNat * 3)).block, (ad178.add ((x5_2).toNat * 3)).off + 1, none⟩ = some (.int .i64 ((rd_T46 l1 x5_2).f1)) ∧ w'.cell? ⟨(ad178.add ((x5_2).toNat * 3)).block, (ad178.add ((x5_2).toNat * 3)).off + 2, none⟩ = some (.bool ((rd_T46 l1 x5_2).f2))) (ds := []) (bs 44 0) (by kernel_rfl) rfl (by kernel_rfl) ⟨((HB.out.cell (World.block_lt_of_cell? w _ hw178_0)).trans hw178_0), ((HB.out.cell (World.block_lt_of_cell? w _ hw178_1)).trans hw178_1), ((HB.out.cell (World.block_lt_of_cell? w _ hw178_2)).trans hw178_2), ((HB.out.cell (World.block_lt_of_cell? w _ hw185_0)).trans hw185_0), ((HB.out.cell (World.block_lt_of_cell? w _ hw185_1)).trans hw185_1), ((HB.out.cell (World.block_lt_of_cell? w _ hw185_2)).trans hw185_2)⟩ (fun hHeld => ?_); refine with_tabW spec_validLog.tab6 spec_validLog.bits6 (fun HT_ HW_ => ?_)
           generalize wr.drew = w36 at HB hx178_0 hx178_1 hx178_2 hx185_0 hx185_1 hx185_2 hHeld ⊢
           refine pT_ HT_.out 0 20 (bs 44 1) ?_
           refine pT_ HT_.out 1 21 (bs 44 3) ?_
           refine pT_ HT_.out 2 22 (bs 44 7) ?_
           refine pT_ HT_.out 3 23 (bs 44 15) ?_
           refine take_ (i := 4) (N := some 24) (v := ?_) (a' := ?_) (bs 44 31) rfl rfl (take_ofW HT_.out HW_.out (by kernel_rfl)) (fun _ _ _ h => h) (Or.inl ⟨by rfl, ?_⟩) hHeld ?_ ?_
           rotate_left
           ·rintro w' ⟨s0, s1, s2, s3, s4, s5⟩
            go_simp
            with_reducible rfl
           rotate_left
           ·simp only [Act.put, List.setIfInBounds_toArray, List.set_cons_zero, List.set_cons_succ, i64_w, i32_w]
            rfl
           refine one_ (i := 5) (N := some 25) (bs 44 63) rfl rfl (one_of HT_.out (by kernel_rfl)) (by decide) (fun K hK => ?_)
           refine goes_ Tryd.func40 (by kernel_rfl) rfl #[.int .i64 ((rd_T46 l1 x5_2).f0), .int .i64 0, .int .i64 200] (by rfl) rfl rfl (by (try simp only [List.map_toArray, List.map_cons, List.map_nil]); first | done | rfl | (simp only [List.length_drop, List.length_take]; rfl)) ?_
           with_reducible refine (spec_inRange.calls ((rd_T46 l1 x5_2).f0) 0 200 true _ A11.out).mono ?_
           rintro e w' ⟨rfl, ⟨nd, rfl⟩⟩
           refine ⟨_, rfl, ?_⟩
           refine hK.out _ _ ⟨((HB.out.cell (World.block_lt_of_cell? w _ hw178_0)).trans hw178_0), ((HB.out.cell (World.block_lt_of_cell? w _ hw178_1)).trans hw178_1), ((HB.out.cell (World.block_lt_of_cell? w _ hw178_2)).trans hw178_2), ((HB.out.cell (World.block_lt_of_cell? w _ hw185_0)).trans hw185_0), ((HB.out.cell (World.block_lt_of_cell? w _ hw185_1)).trans hw185_1), ((HB.out.cell (World.block_lt_of_cell? w _ hw185_2)).trans hw185_2)⟩ (fun hHeld => ?_)
           clear hK K
           refine norm_ (a' := ?_) ?_ ?_
           rotate_left
           ·show Act.put _ (some 25) _ = _
            simp only [Act.put, List.setIfInBounds_toArray, List.set_cons_zero, List.set_cons_succ, i64_w, i32_w]
            rfl
           refine pT_ HT_.out 6 26 (bs 44 127) ?_
           refine pT_ HT_.out 7 27 (bs 44 255) ?_
           refine pT_ HT_.out 8 28 (bs 44 511) ?_
           refine pT_ HT_.out 9 29 (bs 44 1023) ?_
           refine pT_ HT_.out 10 30 (bs 44 2047) ?_
           refine pU_ HT_.out 11 31 (bs 44 4095) ?_
           refine pU_ HT_.out 12 32 (bs 44 8191) ?_
           refine pU_ HT_.out 13 33 (bs 44 16383) ?_
           refine pU_ HT_.out 14 34 (bs 44 32767) ?_
           refine pU_ HT_.out 15 35 (bs 44 65535) ?_
           refine pU_ HT_.out 16 36 (bs 44 131071) ?_
           refine pU_ HT_.out 17 37 (bs 44 262143) ?_
           refine pU_ HT_.out 18 38 (bs 44 524287) ?_
           refine pU_ HT_.out 19 39 (bs 44 1048575) ?_
           refine pU_ HT_.out 20 40 (bs 44 2097151) ?_
           refine pU_ HT_.out 21 41 (bs 44 4194303) ?_
           refine pU_ HT_.out 22 42 (bs 44 8388607) ?_
           refine pT_ HT_.out 23 43 (bs 44 16777215) ?_
           refine pT_ HT_.out 24 44 (bs 44 33554431) ?_
           refine pT_ HT_.out 25 45 (bs 44 67108863) ?_
           refine pT_ HT_.out 26 46 (bs 44 134217727) ?_
           refine pT_ HT_.out 27 47 (bs 44 268435455) ?_
           refine pT_ HT_.out 28 48 (bs 44 536870911) ?_
           refine pT_ HT_.out 29 49 (bs 44 1073741823) ?_
           refine pT_ HT_.out 31 51 (bs 44 3221225471) ?_
           refine pT_ HT_.out 32 52 (bs 44 7516192767) ?_
           refine pT_ HT_.out 33 53 (bs 44 16106127359) ?_
           refine take_ (i := 30) (N := some 50) (v := ?_) (a' := ?_) (bs 44 17179869183) rfl rfl (take_ofW HT_.out HW_.out (by kernel_rfl)) (fun _ _ _ h => h) (Or.inl ⟨by rfl, ?_⟩) hHeld ?_ ?_
           rotate_left
           ·rintro w' ⟨s0, s1, s2, s3, s4, s5⟩
            go_simp
            with_reducible rfl
           rotate_left
           ·simp only [Act.put, List.setIfInBounds_toArray, List.set_cons_zero, List.set_cons_succ, i64_w, i32_w]
            rfl
           refine one_ (i := 34) (N := some 54) (bs 44 34359738367) rfl rfl (one_of HT_.out (by kernel_rfl)) (by decide) (fun K hK => ?_)
           refine goes_ Tryd.func40 (by kernel_rfl) rfl #[.int .i64 ((rd_T46 l1 x5_2).f1), .int .i64 0, .int .i64 (wrap64 ((l0.length : Int) - 1))] (by rfl) rfl rfl (by (try simp only [List.map_toArray, List.map_cons, List.map_nil]); first | done | rfl | (simp only [List.length_drop, List.length_take]; rfl)) ?_
           with_reducible refine (spec_inRange.calls ((rd_T46 l1 x5_2).f1) 0 (wrap64 ((l0.length : Int) - 1)) false _ A28.out).mono ?_
           rintro e w' ⟨rfl, ⟨nd, rfl⟩⟩
           refine ⟨_, rfl, ?_⟩
           refine hK.out _ _ ⟨((HB.out.cell (World.block_lt_of_cell? w _ hw178_0)).trans hw178_0), ((HB.out.cell (World.block_lt_of_cell? w _ hw178_1)).trans hw178_1), ((HB.out.cell (World.block_lt_of_cell? w _ hw178_2)).trans hw178_2), ((HB.out.cell (World.block_lt_of_cell? w _ hw185_0)).trans hw185_0), ((HB.out.cell (World.block_lt_of_cell? w _ hw185_1)).trans hw185_1), ((HB.out.cell (World.block_lt_of_cell? w _ hw185_2)).trans hw185_2)⟩ (fun hHeld => ?_)
           clear hK K
           refine norm_ (a' := ?_) ?_ ?_
           rotate_left
           ·show Act.put _ (some 54) _ = _
            simp only [Act.put, List.setIfInBounds_toArray, List.set_cons_zero, List.set_cons_succ, i64_w, i32_w]
            rfl
           refine pT_ HT_.out 35 55 (bs 44 68719476735) ?_
           refine pT_ HT_.out 36 56 (bs 44 137438953471) ?_
           refine pT_ HT_.out 37 57 (bs 44 274877906943) ?_
           refine pU_ HT_.out 38 58 (bs 44 549755813887) ?_
           refine pU_ HT_.out 39 59 (bs 44 1099511627775) ?_
           refine pU_ HT_.out 40 60 (bs 44 2199023255551) ?_
           refine pU_ HT_.out 41 61 (bs 44 4398046511103) ?_
           refine pU_ HT_.out 42 62 (bs 44 8796093022207) ?_
           refine pT_ HT_.out 43 63 (bs 44 17592186044415) ?_
           refine done_ (done_of HT_.out (by kernel_rfl)) ?_
           try go_wp2
           go_ret
           exact ⟨by first | rfl | (simp [errW_none, errW_some] <;> rfl) | (simp [*, errW_none, errW_some] <;> rfl), blw_⟩
        ·replace c12 := Bool.eq_false_iff.mpr c12
         subst c12
         have H1 : (some false) = some r := by rw [if_neg (show ¬ (false = true) by decide)] at H; exact H
         clear H
         have H := H1
         clear H1
         obtain rfl := Option.some.inj H
         try go_wp2
         have n0_ := Aside0.mk (below_drew1 HB.out)
         clear HB
         have HB := n0_
         clear n0_
         have p178 : 0 ≤ (x5_2 : Int) := of_decide_eq_true (by first | (with_reducible assumption) | assumption)
         have q178 : x5_2 < (l1.length : Int) := of_decide_eq_true (by first | (with_reducible assumption) | assumption)
         obtain ⟨ad178, e178, hx178_0, hx178_1, hx178_2⟩ := at_T46 HR1.out x5_2 p178 q178
         have hw178_2 := hx178_2
         have hw178_1 := hx178_1
         have hw178_0 := hx178_0
         cases e178
         replace hx178_0 := (HB.out.cell (World.block_lt_of_cell? w _ hx178_0)).trans hx178_0
         replace hx178_1 := (HB.out.cell (World.block_lt_of_cell? w _ hx178_1)).trans hx178_1
         replace hx178_2 := (HB.out.cell (World.block_lt_of_cell? w _ hx178_2)).trans hx178_2
         replace p178 := eq_true p178
         replace q178 := eq_true q178
         refine start_ (n := 44) (S := fun w' => w'.cell? (ad178.add ((x5_2).toNat * 3)) = some (.int .i64 ((rd_T46 l1 x5_2).f0)) ∧ w'.cell? ⟨(ad178.add ((x5_2).toNat * 3)).block, (ad178.add ((x5_2).toNat * 3)).off + 1, none⟩ = some (.int .i64 ((rd_T46 l1 x5_2).f1)) ∧ w'.cell? ⟨(ad178.add ((x5_2).toNat * 3)).block, (ad178.add ((x5_2).toNat * 3)).off + 2, none⟩ = some (.bool ((rd_T46 l1 x5_2).f2))) (ds := []) (bs 44 0) (by kernel_rfl) rfl (by kernel_rfl) ⟨((HB.out.cell (World.block_lt_of_cell? w _ hw178_0)).trans hw178_0), ((HB.out.cell (World.block_lt_of_cell? w _ hw178_1)).trans hw178_1), ((HB.out.cell (World.block_lt_of_cell? w _ hw178_2)).trans hw178_2)⟩ (fun hHeld => ?_); refine with_tabW spec_validLog.tab6 spec_validLog.bits6 (fun HT_ HW_ => ?_)
         generalize wr.drew = w37 at HB hx178_0 hx178_1 hx178_2 hHeld ⊢
         refine pT_ HT_.out 0 20 (bs 44 1) ?_
         refine pT_ HT_.out 1 21 (bs 44 3) ?_
         refine pT_ HT_.out 2 22 (bs 44 7) ?_
         refine pT_ HT_.out 3 23 (bs 44 15) ?_
         refine take_ (i := 4) (N := some 24) (v := ?_) (a' := ?_) (bs 44 31) rfl rfl (take_ofW HT_.out HW_.out (by kernel_rfl)) (fun _ _ _ h => h) (Or.inl ⟨by rfl, ?_⟩) hHeld ?_ ?_
         rotate_left
         ·rintro w' ⟨s0, s1, s2⟩
          go_simp
          with_reducible rfl
         rotate_left
         ·simp only [Act.put, List.setIfInBounds_toArray, List.set_cons_zero, List.set_cons_succ, i64_w, i32_w]
          rfl
         refine one_ (i := 5) (N := some 25) (bs 44 63) rfl rfl (one_of HT_.out (by kernel_rfl)) (by decide) (fun K hK => ?_)
         refine goes_ Tryd.func40 (by kernel_rfl) rfl #[.int .i64 ((rd_T46 l1 x5_2).f0), .int .i64 0, .int .i64 200] (by rfl) rfl rfl (by (try simp only [List.map_toArray, List.map_cons, List.map_nil]); first | done | rfl | (simp only [List.length_drop, List.length_take]; rfl)) ?_
         with_reducible refine (spec_inRange.calls ((rd_T46 l1 x5_2).f0) 0 200 false _ A11.out).mono ?_
         rintro e w' ⟨rfl, ⟨nd, rfl⟩⟩
         refine ⟨_, rfl, ?_⟩
         refine hK.out _ _ ⟨((HB.out.cell (World.block_lt_of_cell? w _ hw178_0)).trans hw178_0), ((HB.out.cell (World.block_lt_of_cell? w _ hw178_1)).trans hw178_1), ((HB.out.cell (World.block_lt_of_cell? w _ hw178_2)).trans hw178_2)⟩ (fun hHeld => ?_)
         clear hK K
         refine norm_ (a' := ?_) ?_ ?_
         rotate_left
         ·show Act.put _ (some 25) _ = _
          simp only [Act.put, List.setIfInBounds_toArray, List.set_cons_zero, List.set_cons_succ, i64_w, i32_w]
          rfl
         refine pT_ HT_.out 6 26 (bs 44 127) ?_
         refine pT_ HT_.out 7 27 (bs 44 255) ?_
         refine pU_ HT_.out 8 28 (bs 44 511) ?_
         refine pU_ HT_.out 9 29 (bs 44 1023) ?_
         refine pU_ HT_.out 10 30 (bs 44 2047) ?_
         refine pU_ HT_.out 11 31 (bs 44 4095) ?_
         refine pU_ HT_.out 12 32 (bs 44 8191) ?_
         refine pU_ HT_.out 13 33 (bs 44 16383) ?_
         refine pU_ HT_.out 14 34 (bs 44 32767) ?_
         refine pU_ HT_.out 15 35 (bs 44 65535) ?_
         refine pU_ HT_.out 16 36 (bs 44 131071) ?_
         refine pU_ HT_.out 17 37 (bs 44 262143) ?_
         refine pU_ HT_.out 18 38 (bs 44 524287) ?_
         refine pU_ HT_.out 19 39 (bs 44 1048575) ?_
         refine pU_ HT_.out 20 40 (bs 44 2097151) ?_
         refine pU_ HT_.out 21 41 (bs 44 4194303) ?_
         refine pU_ HT_.out 22 42 (bs 44 8388607) ?_
         refine pU_ HT_.out 23 43 (bs 44 16777215) ?_
         refine pT_ HT_.out 24 44 (bs 44 33554431) ?_
         refine pT_ HT_.out 25 45 (bs 44 67108863) ?_
         refine pU_ HT_.out 26 46 (bs 44 134217727) ?_
         refine pU_ HT_.out 27 47 (bs 44 268435455) ?_
         refine pU_ HT_.out 28 48 (bs 44 536870911) ?_
         refine pU_ HT_.out 29 49 (bs 44 1073741823) ?_
         refine pU_ HT_.out 30 50 (bs 44 2147483647) ?_
         refine pU_ HT_.out 31 51 (bs 44 4294967295) ?_
         refine pU_ HT_.out 32 52 (bs 44 8589934591) ?_
         refine pU_ HT_.out 33 53 (bs 44 17179869183) ?_
         refine pU_ HT_.out 34 54 (bs 44 34359738367) ?_
         refine pU_ HT_.out 35 55 (bs 44 68719476735) ?_
         refine pT_ HT_.out 36 56 (bs 44 137438953471) ?_
         refine pT_ HT_.out 37 57 (bs 44 274877906943) ?_
         refine pU_ HT_.out 38 58 (bs 44 549755813887) ?_
         refine pU_ HT_.out 39 59 (bs 44 1099511627775) ?_
         refine pU_ HT_.out 40 60 (bs 44 2199023255551) ?_
         refine pU_ HT_.out 41 61 (bs 44 4398046511103) ?_
         refine pU_ HT_.out 42 62 (bs 44 8796093022207) ?_
         refine pT_ HT_.out 43 63 (bs 44 17592186044415) ?_
         refine done_ (done_of HT_.out (by kernel_rfl)) ?_
         try go_wp2
         go_ret
         exact ⟨by first | rfl | (simp [errW_none, errW_some] <;> rfl) | (simp [*, errW_none, errW_some] <;> rfl), blw_⟩
       ·rw [if_neg c10] at H
        exact absurd H (by simp)
      ·rw [if_neg c9] at H
       have c9b0 : decide (x5_2 < (l1.length : Int)) = false := decide_eq_false c9
       clear c9
       obtain rfl := Option.some.inj H
       go_wp2
       go_ret
       exact ⟨by first | rfl | (simp [errW_none, errW_some] <;> rfl) | (simp [*, errW_none, errW_some] <;> rfl), blw_⟩

end Go.Proofs.YtkafmfabkbmpbaaDoor.G
