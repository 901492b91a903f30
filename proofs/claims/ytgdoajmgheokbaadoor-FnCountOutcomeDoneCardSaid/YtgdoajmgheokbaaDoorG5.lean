-- SLIM
-- Written by hyb.py, a driver of this session round the print.py of the kit. Lean checks it.
import Derived.Test.YtgdoajmgheokbaaDoorWRepsOne
import Derived.Test.YtgdoajmgheokbaaDoorG0
import Derived.Test.YtgdoajmgheokbaaDoorG1
namespace Go.Proofs.YtgdoajmgheokbaaDoor.G
open Go.RowKit Go.Proofs.YtgdoajmgheokbaaDoorW.PrintWords Go.Proofs.YtgdoajmgheokbaaDoorW.PrintLast Go.Proofs.YtgdoajmgheokbaaDoorW.PrintMore
attribute [local go_sem] max2_int min2_int max_two min_two max_three min_three max_four min_four   -- for this text's walks alone
set_option linter.unusedVariables false
set_option linter.unusedSimpArgs false

/-! ### spec_needsFine: function 79 -/
def spec_needsFine.l0 : Nat → List Int → List Int → Int → Option (Bool)
 | 0, _, _, _ => none
 | k + 1, x0, x1, x5 => if x5 < (x0.length : Int) then (if 0 ≤ x5 then (if 0 ≤ (rd x0 x5) then (if (rd x0 x5) < (x1.length : Int) then (if (rd x1 (rd x0 x5)) = 0 then (spec_needsFine.l0 k x0 x1 (wrap64 (x5 + 1))) else (some false)) else (none)) else (none)) else (none)) else (some true)
def spec_needsFine.f (k : Nat) (l0 : List Int) (l1 : List Int) : Option (Bool) := spec_needsFine.l0 k l0 l1 0
set_option maxHeartbeats 8000000 in
set_option maxRecDepth 100000 in
theorem spec_needsFine.calls (k : Nat) (A0 : Option Addr) (c0 : Nat) (l0 : List Int) (A1 : Option Addr) (c1 : Nat) (l1 : List Int) (r : Bool) (w : World) (hr0 : Kd.C (Kd.int .i64) w A0 l0.length l0) (hc0 : l0.length ≤ c0) (hr1 : Kd.C (Kd.int .i64) w A1 l1.length l1) (hc1 : l1.length ≤ c1) (h : spec_needsFine.f k l0 l1 = some r) :
  Calls Tryd.prog 79 #[.slice A0 l0.length c0, .slice A1 l1.length c1] w fun e w' => e = .returned (.bool r) ∧ Drawn0 w w' := by
 have HR0 := Aside0.mk hr0
 have HC0 := Aside0.mk hc0
 clear hr0 hc0
 have HR1 := Aside0.mk hr1
 have HC1 := Aside0.mk hc1
 clear hr1 hc1
 have H : (spec_needsFine.l0 k l0 l1 0) = some r := h
 clear h
 have H' := Aside0.mk H
 clear H
 go_enter Tryd.func79, Tryd.ntmps79
 go_wp2
 go_loopg [5] k (fun kq v5 w' => ∃ (x5_1 : Int), v5 = .int .i64 x5_1 ∧ Aside0 (spec_needsFine.l0 kq l0 l1 x5_1 = some r) ∧ Aside0 (kq ≤ k) ∧ Drawn0 w w')
 case atStart => exact ⟨(0), (by first | rfl | (simp; done) | (simp [*]; done)), H', ⟨Nat.le_refl _⟩, by repeat (first | exact Drawn0.refl _ | apply Drawn0.step)⟩
 case round =>
  clear H'
  try clear c1
  try clear p2
  obtain ⟨x5_1, rfl, HA, HK1, ⟨m1, rfl⟩⟩ := hrel
  cases gk with
  | zero => exact absurd HA.out (by simp [spec_needsFine.l0])
  | succ k1 =>
   have H := HA.out
   clear HA
   simp only [spec_needsFine.l0] at H
   by_cases c3 : x5_1 < (l0.length : Int)
   ·rw [if_pos c3] at H
    have c3b0 : decide (x5_1 < (l0.length : Int)) = true := decide_eq_true c3
    clear c3
    by_cases c4 : 0 ≤ x5_1
    ·rw [if_pos c4] at H
     have c4b0 : decide (0 ≤ x5_1) = true := decide_eq_true c4
     clear c4
     by_cases c5 : 0 ≤ (rd l0 x5_1)
     ·rw [if_pos c5] at H
      have c5b0 : decide (0 ≤ (rd l0 x5_1)) = true := decide_eq_true c5
      clear c5
      by_cases c6 : (rd l0 x5_1) < (l1.length : Int)
      ·rw [if_pos c6] at H
       have c6b0 : decide ((rd l0 x5_1) < (l1.length : Int)) = true := decide_eq_true c6
       clear c6
       by_cases c7 : (rd l1 (rd l0 x5_1)) = 0
       ·rw [if_pos c7] at H
        have c7b0 : ((rd l1 (rd l0 x5_1)) == 0) = true := beq_iff_eq.mpr c7
        have c7b1 : ((rd l1 (rd l0 x5_1)) != 0) = false := bne_eq_false_iff_eq.mpr c7
        clear c7
        have H' := Aside0.mk H
        clear H
        have p436 : 0 ≤ (x5_1 : Int) := of_decide_eq_true (by first | (with_reducible assumption) | assumption)
        have q436 : x5_1 < (l0.length : Int) := of_decide_eq_true (by first | (with_reducible assumption) | assumption)
        obtain ⟨ad436, e436, hx436_0⟩ := Kd.at_int HR0.out x5_1 p436 q436
        cases e436
        replace p436 := eq_true p436
        replace q436 := eq_true q436
        have p437 : 0 ≤ ((rd l0 x5_1) : Int) := of_decide_eq_true (by first | (with_reducible assumption) | assumption)
        have q437 : (rd l0 x5_1) < (l1.length : Int) := of_decide_eq_true (by first | (with_reducible assumption) | assumption)
        obtain ⟨ad437, e437, hx437_0⟩ := Kd.at_int HR1.out (rd l0 x5_1) p437 q437
        cases e437
        replace p437 := eq_true p437
        replace q437 := eq_true q437
        go_wp2
        go_roundg k1
        case measure => have := HK1.out; omega
        case rel => exact ⟨(wrap64 (x5_1 + 1)), (by first | rfl | (simp; done) | (simp [*]; done)), H', ⟨by have := HK1.out; omega⟩, by repeat (first | exact Drawn0.refl _ | apply Drawn0.step)⟩
       ·rw [if_neg c7] at H
        have c7b0 : ((rd l1 (rd l0 x5_1)) == 0) = false := beq_eq_false_iff_ne.mpr c7
        have c7b1 : ((rd l1 (rd l0 x5_1)) != 0) = true := bne_iff_ne.mpr c7
        obtain rfl := Option.some.inj H
        have p436 : 0 ≤ (x5_1 : Int) := of_decide_eq_true (by first | (with_reducible assumption) | assumption)
        have q436 : x5_1 < (l0.length : Int) := of_decide_eq_true (by first | (with_reducible assumption) | assumption)
        obtain ⟨ad436, e436, hx436_0⟩ := Kd.at_int HR0.out x5_1 p436 q436
        cases e436
        replace p436 := eq_true p436
        replace q436 := eq_true q436
        have p437 : 0 ≤ ((rd l0 x5_1) : Int) := of_decide_eq_true (by first | (with_reducible assumption) | assumption)
        have q437 : (rd l0 x5_1) < (l1.length : Int) := of_decide_eq_true (by first | (with_reducible assumption) | assumption)
        obtain ⟨ad437, e437, hx437_0⟩ := Kd.at_int HR1.out (rd l0 x5_1) p437 q437
        cases e437
        replace p437 := eq_true p437
        replace q437 := eq_true q437
        go_wp2
        go_ret
        exact ⟨by first | rfl | (simp; done) | (simp [*]; done), by repeat (first | exact Drawn0.refl _ | apply Drawn0.step)⟩
      ·rw [if_neg c6] at H
       exact absurd H (by simp)
     ·rw [if_neg c5] at H
      exact absurd H (by simp)
    ·rw [if_neg c4] at H
     exact absurd H (by simp)
   ·rw [if_neg c3] at H
    have c3b0 : decide (x5_1 < (l0.length : Int)) = false := decide_eq_false c3
    clear c3
    obtain rfl := Option.some.inj H
    go_wp2
    go_ret
    exact ⟨by first | rfl | (simp; done) | (simp [*]; done), by repeat (first | exact Drawn0.refl _ | apply Drawn0.step)⟩

/-! ### spec_outcome: function 54 -/
def spec_outcome.l0 : Nat → List (S74) → List Int → Int → List Int → List Int → Int → Int → Option (List Int)
 | 0, _, _, _, _, _, _, _ => none
 | k + 1, x0, x1, x2, x7, x8, x9, x10 => if x10 < (x8.length : Int) then (if 0 ≤ x10 then (if x9 ≥ x2 then (if 0 ≤ (rd x8 x10) then (if (rd x8 x10) < (x7.length : Int) then (spec_outcome.l0 k x0 x1 x2 (x7.set ((rd x8 x10) : Int).toNat 3) x8 x9 (wrap64 (x10 + 1))) else (none)) else (none)) else (if 0 ≤ (rd x8 x10) then (if (rd x8 x10) < (x0.length : Int) then ((spec_needsFine.f k ((rd_T74 x0 (rd x8 x10)).f1) x7).bind fun t447 => (if t447 = true then ((spec_isIn.f k x1 (rd x8 x10)).bind fun t448 => (if t448 = true then (if (rd x8 x10) < (x7.length : Int) then (spec_outcome.l0 k x0 x1 x2 (x7.set ((rd x8 x10) : Int).toNat 1) x8 (wrap64 (x9 + 1)) (wrap64 (x10 + 1))) else (none)) else (if (rd x8 x10) < (x7.length : Int) then (spec_outcome.l0 k x0 x1 x2 (x7.set ((rd x8 x10) : Int).toNat 0) x8 x9 (wrap64 (x10 + 1))) else (none)))) else (if (rd x8 x10) < (x7.length : Int) then (spec_outcome.l0 k x0 x1 x2 (x7.set ((rd x8 x10) : Int).toNat 2) x8 x9 (wrap64 (x10 + 1))) else (none)))) else (none)) else (none))) else (none)) else (some x7)
def spec_outcome.f (k : Nat) (l0 : List (S74)) (l1 : List Int) (a2 : Int) : Option (List Int) := if 0 ≤ (l0.length : Int) then (if ((l0.length : Int) : Int).toNat ≤ 35184372088832 then ((spec_topOrder.f k l0).bind fun t441 => (spec_outcome.l0 k l0 l1 a2 (List.replicate ((l0.length : Int) : Int).toNat 0) t441 0 0)) else (none)) else (none)
set_option maxHeartbeats 8000000 in
set_option maxRecDepth 100000 in
theorem spec_outcome.calls (k : Nat) (A0 : Option Addr) (c0 : Nat) (l0 : List (S74)) (A1 : Option Addr) (c1 : Nat) (l1 : List Int) (a2 : Int) (r : List Int) (w : World) (hr0 : Kd.C k74 w A0 l0.length l0) (hc0 : l0.length ≤ c0) (hr1 : Kd.C (Kd.int .i64) w A1 l1.length l1) (hc1 : l1.length ≤ c1) (h : spec_outcome.f k l0 l1 a2 = some r) :
  Calls Tryd.prog 54 #[.slice A0 l0.length c0, .slice A1 l1.length c1, .int .i64 a2] w fun e w' => ∃ v0_ : Value, e = .returned (v0_) ∧ Kd.R (Kd.int .i64) 3 w' w.heap.size (fun _ => True) v0_ r ∧ Below w.heap.size w w' := by
 have HR0 := Aside0.mk hr0
 have HC0 := Aside0.mk hc0
 clear hr0 hc0
 have HR1 := Aside0.mk hr1
 have HC1 := Aside0.mk hc1
 clear hr1 hc1
 have HB := Aside0.mk (Below.refl w.heap.size w)
 have H : (if 0 ≤ (l0.length : Int) then (if ((l0.length : Int) : Int).toNat ≤ 35184372088832 then ((spec_topOrder.f k l0).bind fun t441 => (spec_outcome.l0 k l0 l1 a2 (List.replicate ((l0.length : Int) : Int).toNat 0) t441 0 0)) else (none)) else (none)) = some r := h
 clear h
 by_cases c4 : 0 ≤ (l0.length : Int)
 ·rw [if_pos c4] at H
  have c4b0 := eq_true c4
  have c4b1 : decide (0 ≤ (l0.length : Int)) = true := decide_eq_true c4
  clear c4
  by_cases c5 : ((l0.length : Int) : Int).toNat ≤ 35184372088832
  ·rw [if_pos c5] at H
   have c5b0 := eq_true c5
   have c5b1 : decide (((l0.length : Int) : Int).toNat ≤ 35184372088832) = true := decide_eq_true c5
   clear c5
   obtain ⟨y438, hy438⟩ : ∃ y_ : List Int, y_ = (List.replicate ((l0.length : Int) : Int).toNat 0) := ⟨_, rfl⟩
   replace H : ((spec_topOrder.f k l0).bind fun t441 => (spec_outcome.l0 k l0 l1 a2 y438 t441 0 0)) = some r := by first | (rw [hy438]; with_reducible exact H) | (have H2_ := (Option.bind_some _ _).symm.trans H; rw [hy438]; with_reducible exact H2_) | (have H2_ := (Option.bind_some _ _).symm.trans H; with_reducible exact H2_) | with_reducible exact H | (rw [hy438]; exact H) | exact H
   have Ny438 := Aside0.mk hy438
   clear hy438
   replace H := Option.bind_eq_some_iff.mp H
   obtain ⟨t441, A60, H⟩ := H
   replace H : (spec_outcome.l0 k l0 l1 a2 y438 t441 0 0) = some r := H
   have A6 := Aside0.mk A60
   clear A60
   have H' := Aside0.mk H
   clear H
   go_enter Tryd.func54, Tryd.ntmps54
   go_wp2_with (first | ((with_reducible refine gate_dst (N := 14) rfl ?_); refine Kd.R_make (Kd.int .i64) _ 3 rfl (N := 14) rfl 24 _ _ rfl (l0.length : Int) rfl rfl Tryd.underlying24 (.int .i64 0) 8 info3 rfl (by decide) (by omega) 0 (ok := fun _ => True) (okp := fun _ => True) rfl (fun _ hk => hk) trivial (of_decide_eq_true (by first | (with_reducible assumption) | assumption)) (Nat.le_trans (Nat.mul_le_mul_right _ (of_decide_eq_true (by first | (with_reducible assumption) | assumption) : (l0.length : Int).toNat ≤ 35184372088832)) (by omega)) (Below.refl _ _) (Nat.le_refl _) ?_; intro v439 w7 ho8 hb hg_ hnew_; clear hg_ hnew_; (first | rw [← Ny438.out] at ho8 | (simp only [Int.reduceToNat] at ho8; rw [← Ny438.out] at ho8)); have n0_ := Aside0.mk (Kd.R_lower ho8 (below_size blw_)); have n1_ := Aside0.mk (below_step blw_ hb); clear HB; have HO440 := n0_; have HB := n1_; clear n0_ n1_; clear hb ho8) | ((with_reducible refine gate_callee (f := 76) rfl ?_); refine goesC_ (some 16) Tryd.func76 #[.slice A0 l0.length c0] ?_; (with_reducible refine (spec_topOrder.calls k _ _ l0 t441 _ ?side1 ?side2 A6.out).mono ?_); (case side1 => exact cw_ (Kd.C_below HR0.out HB.out)); (case side2 => exact HC0.out); rintro e w9 ⟨v442, rfl, ho0, hb⟩; refine ⟨_, rfl, ?_⟩; have n0_ := Aside0.mk (Kd.R_elder' (by (with_reducible repeat (first | apply Kd.R_alloc | apply Kd.R_drewN | apply Kd.R_drew)); exact HO440.out) (Kd.R_base ho0) hb); have n1_ := Aside0.mk (Kd.R_lower (Kd.R_new' ho0 (Kd.R_lt (by (with_reducible repeat (first | apply Kd.R_alloc | apply Kd.R_drewN | apply Kd.R_drew)); exact HO440.out))) (below_size blw_)); have n2_ := Aside0.mk (below_step blw_ hb); clear HO440; clear HB; have HO440 := n0_; have HO443 := n1_; have HB := n2_; clear n0_ n1_ n2_; (try clear hb); (try clear hb2); (try clear hk); (try clear hi); (try clear ho0)))
   go_loopg [9, 10] k (fun kq v9 v10 w' => ∃ (x7_1 : List Int) (x9_1 : Int) (x10_1 : Int), v9 = .int .i64 x9_1 ∧ v10 = .int .i64 x10_1 ∧ Aside0 (spec_outcome.l0 kq l0 l1 a2 x7_1 t441 x9_1 x10_1 = some r) ∧ Aside0 (kq ≤ k) ∧ Aside0 (Kd.R (Kd.int .i64) 3 w' w.heap.size (fun k_ => some k_ ≠ (v442 : Value).ownBlock) v439 x7_1) ∧ Aside0 (Kd.R (Kd.int .i64) 3 w' w.heap.size (fun k_ => some k_ ≠ (v439 : Value).ownBlock) v442 t441) ∧ Aside0 (Below w.heap.size w w'))
   case atStart => exact ⟨(y438), (0), (0), (by first | rfl | (simp; done) | (simp [*]; done)), (by first | rfl | (simp; done) | (simp [*]; done)), H', ⟨Nat.le_refl _⟩, ⟨by (with_reducible repeat (first | apply Kd.R_alloc | apply Kd.R_drewN | apply Kd.R_drew)); exact Kd.R_mono HO440.out (fun _ hk => hk.2)⟩, ⟨by (with_reducible repeat (first | apply Kd.R_alloc | apply Kd.R_drewN | apply Kd.R_drew)); exact Kd.R_mono HO443.out (fun _ hk => hk.2)⟩, ⟨blw_⟩⟩
   case round =>
    clear H'
    try clear c1
    try clear p2
    try clear c4
    try clear c4b0
    try clear c4b1
    try clear c5
    try clear c5b0
    try clear c5b1
    try clear c7
    obtain ⟨x7_1, x9_1, x10_1, rfl, rfl, HA, HK1, HO_7, HO_8, HB⟩ := hrel
    cases gk with
    | zero => exact absurd HA.out (by simp [spec_outcome.l0])
    | succ k1 =>
     have H := HA.out
     clear HA
     simp only [spec_outcome.l0] at H
     by_cases c10 : x10_1 < (t441.length : Int)
     ·rw [if_pos c10] at H
      have c10b0 : decide (x10_1 < (t441.length : Int)) = true := decide_eq_true c10
      clear c10
      by_cases c11 : 0 ≤ x10_1
      ·rw [if_pos c11] at H
       have c11b0 : decide (0 ≤ x10_1) = true := decide_eq_true c11
       clear c11
       by_cases c12 : x9_1 ≥ a2
       ·rw [if_pos c12] at H
        have c12b0 : decide (a2 ≤ x9_1) = true := decide_eq_true c12
        clear c12
        by_cases c13 : 0 ≤ (rd t441 x10_1)
        ·rw [if_pos c13] at H
         have c13b0 : decide (0 ≤ (rd t441 x10_1)) = true := decide_eq_true c13
         clear c13
         by_cases c14 : (rd t441 x10_1) < (x7_1.length : Int)
         ·rw [if_pos c14] at H
          have c14b0 : decide ((rd t441 x10_1) < (x7_1.length : Int)) = true := decide_eq_true c14
          clear c14
          obtain ⟨y445, hy445⟩ : ∃ y_ : List Int, y_ = (x7_1.set ((rd t441 x10_1) : Int).toNat 3) := ⟨_, rfl⟩
          replace H : (spec_outcome.l0 k1 l0 l1 a2 y445 t441 x9_1 (wrap64 (x10_1 + 1))) = some r := by first | (rw [hy445]; with_reducible exact H) | (have H2_ := (Option.bind_some _ _).symm.trans H; rw [hy445]; with_reducible exact H2_) | (have H2_ := (Option.bind_some _ _).symm.trans H; with_reducible exact H2_) | with_reducible exact H | (rw [hy445]; exact H) | exact H
          have Ny445 := Aside0.mk hy445
          clear hy445
          have H' := Aside0.mk H
          clear H
          obtain ⟨Ao16, co16, eo16⟩ := Kd.R_slice HO_8.out
          subst eo16
          have p444 : 0 ≤ (x10_1 : Int) := of_decide_eq_true (by first | (with_reducible assumption) | assumption)
          have q444 : x10_1 < (t441.length : Int) := of_decide_eq_true (by first | (with_reducible assumption) | assumption)
          obtain ⟨ad444, e444, hx444_0⟩ := Kd.at_int (Kd.R_reads' HO_8.out).2.2 x10_1 p444 q444
          cases e444
          replace p444 := eq_true p444
          replace q444 := eq_true q444
          have p15 : 0 ≤ ((rd t441 x10_1) : Int) := of_decide_eq_true (by first | (with_reducible assumption) | assumption)
          have q15 : ((rd t441 x10_1) : Int) < ((x7_1.length : Int) : Int) := of_decide_eq_true (by first | (with_reducible assumption) | assumption)
          obtain ⟨go15, co15, eo15, gb15, gl15, cl15, HG15⟩ := Kd.R_form HO_7.out (by omega)
          (first | cases eo15 | (injection eo15 with ea_ en_ ec_; (first | subst ea_ | (injection ea_ with ea_; subst ea_)); subst ec_; clear en_))
          have GB15 := Aside0.mk gb15
          have GG15 := Aside0.mk HG15
          clear gb15 gl15 HG15
          obtain ⟨hx15_0, hf15_0⟩ := Kd.R_celln 0 HO_7.out ((rd t441 x10_1) : Int) p15 q15
          replace p15 := eq_true p15
          replace q15 := eq_true q15
          have HP17 := Kd.R_putg HO_7.out ((rd t441 x10_1) : Int) 3
          go_wp2_with (first | ((with_reducible refine gate_store (t := 3) (p := 36) rfl ?_); refine store_event (t := 3) (p := 36) (v := ?vo_w18) (w1 := (wr.setCell ⟨go15, ((rd t441 x10_1) : Int).toNat, none⟩ (.int .i64 3))) ?hg ?ho ?hn ?hr ?_; (case ho => rfl); (case hg => rfl); (case hn => rfl); (case hr => first | (go_simp; done) | (go_simp; rfl)); intro w18 hw; have hg : wr.grownBy w18 (some go15) := (by rw [hw]; exact HP17.2); have hp_ : Kd.R (Kd.int .i64) 3 w18 w.heap.size (fun k_ => some k_ ≠ (.slice (some ad444) t441.length co16 : Value).ownBlock) (.slice (some ⟨go15, 0, none⟩) x7_1.length co15) y445 := (by rw [hw, Ny445.out]; exact HP17.1); clear HP17; have n0_ := Aside0.mk (hp_); have n1_ := Aside0.mk (Kd.R_after (v := (.slice (some ⟨go15, 0, none⟩) x7_1.length co15)) (v1 := (.slice (some ⟨go15, 0, none⟩) x7_1.length co15)) (ok := (fun _ => True)) (by (with_reducible repeat (first | apply Kd.R_alloc | apply Kd.R_drewN | apply Kd.R_drew)); exact Kd.R_mono HO_8.out (fun _ hk => ⟨trivial, hk⟩)) hg (.inl rfl)); have n2_ := Aside0.mk ((by rw [hw]; exact below_set (HB.out) GB15.out : Below w.heap.size w w18)); clear HO_7; clear HO_8; clear HB; have HO_7 := n0_; have HO_8 := n1_; have HB := n2_; clear n0_ n1_ n2_; clear hg hw hp_))
          go_roundg k1
          case measure => have := HK1.out; omega
          case rel => exact ⟨(y445), (x9_1), (wrap64 (x10_1 + 1)), (by first | rfl | (simp; done) | (simp [*]; done)), (by first | rfl | (simp; done) | (simp [*]; done)), H', ⟨by have := HK1.out; omega⟩, ⟨rw_ HO_7.out⟩, ⟨by (with_reducible repeat (first | apply Kd.R_alloc | apply Kd.R_drewN | apply Kd.R_drew)); exact Kd.R_mono HO_8.out (fun _ hk => hk.2)⟩, ⟨blw_⟩⟩
         ·rw [if_neg c14] at H
          exact absurd H (by simp)
        ·rw [if_neg c13] at H
         exact absurd H (by simp)
       ·rw [if_neg c12] at H
        have c12b0 : decide (a2 ≤ x9_1) = false := decide_eq_false c12
        clear c12
        by_cases c19 : 0 ≤ (rd t441 x10_1)
        ·rw [if_pos c19] at H
         have c19b0 : decide (0 ≤ (rd t441 x10_1)) = true := decide_eq_true c19
         clear c19
         by_cases c20 : (rd t441 x10_1) < (l0.length : Int)
         ·rw [if_pos c20] at H
          have c20b0 : decide ((rd t441 x10_1) < (l0.length : Int)) = true := decide_eq_true c20
          clear c20
          replace H := Option.bind_eq_some_iff.mp H
          obtain ⟨t447, A210, H⟩ := H
          replace H : (if t447 = true then ((spec_isIn.f k1 l1 (rd t441 x10_1)).bind fun t448 => (if t448 = true then (if (rd t441 x10_1) < (x7_1.length : Int) then (spec_outcome.l0 k1 l0 l1 a2 (x7_1.set ((rd t441 x10_1) : Int).toNat 1) t441 (wrap64 (x9_1 + 1)) (wrap64 (x10_1 + 1))) else (none)) else (if (rd t441 x10_1) < (x7_1.length : Int) then (spec_outcome.l0 k1 l0 l1 a2 (x7_1.set ((rd t441 x10_1) : Int).toNat 0) t441 x9_1 (wrap64 (x10_1 + 1))) else (none)))) else (if (rd t441 x10_1) < (x7_1.length : Int) then (spec_outcome.l0 k1 l0 l1 a2 (x7_1.set ((rd t441 x10_1) : Int).toNat 2) t441 x9_1 (wrap64 (x10_1 + 1))) else (none))) = some r := H
          have A21 := Aside0.mk A210
          clear A210
          by_cases c22 : t447 = true
          ·subst c22
           have H1 : ((spec_isIn.f k1 l1 (rd t441 x10_1)).bind fun t448 => (if t448 = true then (if (rd t441 x10_1) < (x7_1.length : Int) then (spec_outcome.l0 k1 l0 l1 a2 (x7_1.set ((rd t441 x10_1) : Int).toNat 1) t441 (wrap64 (x9_1 + 1)) (wrap64 (x10_1 + 1))) else (none)) else (if (rd t441 x10_1) < (x7_1.length : Int) then (spec_outcome.l0 k1 l0 l1 a2 (x7_1.set ((rd t441 x10_1) : Int).toNat 0) t441 x9_1 (wrap64 (x10_1 + 1))) else (none)))) = some r := by rw [if_pos rfl] at H; exact H
           clear H
           have H := H1
           clear H1
           replace H := Option.bind_eq_some_iff.mp H
           obtain ⟨t448, A230, H⟩ := H
           replace H : (if t448 = true then (if (rd t441 x10_1) < (x7_1.length : Int) then (spec_outcome.l0 k1 l0 l1 a2 (x7_1.set ((rd t441 x10_1) : Int).toNat 1) t441 (wrap64 (x9_1 + 1)) (wrap64 (x10_1 + 1))) else (none)) else (if (rd t441 x10_1) < (x7_1.length : Int) then (spec_outcome.l0 k1 l0 l1 a2 (x7_1.set ((rd t441 x10_1) : Int).toNat 0) t441 x9_1 (wrap64 (x10_1 + 1))) else (none))) = some r := H
           have A23 := Aside0.mk A230
           clear A230
           by_cases c24 : t448 = true
           ·subst c24
            have H1 : (if (rd t441 x10_1) < (x7_1.length : Int) then (spec_outcome.l0 k1 l0 l1 a2 (x7_1.set ((rd t441 x10_1) : Int).toNat 1) t441 (wrap64 (x9_1 + 1)) (wrap64 (x10_1 + 1))) else (none)) = some r := by rw [if_pos rfl] at H; exact H
            clear H
            have H := H1
            clear H1
            by_cases c25 : (rd t441 x10_1) < (x7_1.length : Int)
            ·rw [if_pos c25] at H
             have c25b0 : decide ((rd t441 x10_1) < (x7_1.length : Int)) = true := decide_eq_true c25
             clear c25
             obtain ⟨y449, hy449⟩ : ∃ y_ : List Int, y_ = (x7_1.set ((rd t441 x10_1) : Int).toNat 1) := ⟨_, rfl⟩
             replace H : (spec_outcome.l0 k1 l0 l1 a2 y449 t441 (wrap64 (x9_1 + 1)) (wrap64 (x10_1 + 1))) = some r := by first | (rw [hy449]; with_reducible exact H) | (have H2_ := (Option.bind_some _ _).symm.trans H; rw [hy449]; with_reducible exact H2_) | (have H2_ := (Option.bind_some _ _).symm.trans H; with_reducible exact H2_) | with_reducible exact H | (rw [hy449]; exact H) | exact H
             have Ny449 := Aside0.mk hy449
             clear hy449
             have H' := Aside0.mk H
             clear H
             obtain ⟨Ao27, co27, eo27⟩ := Kd.R_slice HO_8.out
             subst eo27
             have p444 : 0 ≤ (x10_1 : Int) := of_decide_eq_true (by first | (with_reducible assumption) | assumption)
             have q444 : x10_1 < (t441.length : Int) := of_decide_eq_true (by first | (with_reducible assumption) | assumption)
             obtain ⟨ad444, e444, hx444_0⟩ := Kd.at_int (Kd.R_reads' HO_8.out).2.2 x10_1 p444 q444
             cases e444
             replace p444 := eq_true p444
             replace q444 := eq_true q444
             have p446 : 0 ≤ ((rd t441 x10_1) : Int) := of_decide_eq_true (by first | (with_reducible assumption) | assumption)
             have q446 : (rd t441 x10_1) < (l0.length : Int) := of_decide_eq_true (by first | (with_reducible assumption) | assumption)
             obtain ⟨ad446, A446_1, c446_1, e446, hx446_0, hx446_1, hx446_2, hx446_3, hl446_1, hi446_1⟩ := at_T74 HR0.out (rd t441 x10_1) p446 q446
             cases e446
             replace hx446_0 := (HB.out.cell (World.block_lt_of_cell? w _ hx446_0)).trans hx446_0
             replace hx446_1 := (HB.out.cell (World.block_lt_of_cell? w _ hx446_1)).trans hx446_1
             replace hx446_2 := (HB.out.cell (World.block_lt_of_cell? w _ hx446_2)).trans hx446_2
             replace hx446_3 := (HB.out.cell (World.block_lt_of_cell? w _ hx446_3)).trans hx446_3
             have HR446_1 := Aside0.mk hi446_1
             have HC446_1 := Aside0.mk hl446_1
             clear hi446_1 hl446_1
             replace p446 := eq_true p446
             replace q446 := eq_true q446
             obtain ⟨Ao28, co28, eo28⟩ := Kd.R_slice HO_7.out
             subst eo28
             go_wp2_with (first | ((with_reducible refine gate_callee (f := 79) rfl ?_); refine goesC_ (some 44) Tryd.func79 #[.slice A446_1 ((rd_T74 l0 (rd t441 x10_1)).f1).length c446_1, .slice Ao28 x7_1.length co28] ?_; (with_reducible refine (spec_needsFine.calls k1 _ _ ((rd_T74 l0 (rd t441 x10_1)).f1) _ _ x7_1 true _ ?side1 ?side2 ?side3 ?side4 A21.out).mono ?_); (case side1 => exact cw_ (Kd.C_below HR446_1.out HB.out)); (case side2 => exact HC446_1.out); (case side3 => exact cw_ (Kd.R_reads' HO_7.out).2.2); (case side4 => exact (Kd.R_reads' HO_7.out).2.1); rintro e w' ⟨rfl, ⟨nd, rfl⟩⟩; refine ⟨_, rfl, ?_⟩; (try (rw [drewN_self wr]; generalize hq_ : World.drewN wr _ = wr; have n0_ : Aside0 (Kd.R (Kd.int .i64) 3 wr w.heap.size (fun k_ => some k_ ≠ (.slice (some ad444) t441.length co27 : Value).ownBlock) (.slice Ao28 x7_1.length co28) x7_1) := ⟨by rw [← hq_]; exact (by (with_reducible repeat (first | apply Kd.R_alloc | apply Kd.R_drewN | apply Kd.R_drew)); exact HO_7.out)⟩; have n1_ : Aside0 (Kd.R (Kd.int .i64) 3 wr w.heap.size (fun k_ => some k_ ≠ (.slice Ao28 x7_1.length co28 : Value).ownBlock) (.slice (some ad444) t441.length co27) t441) := ⟨by rw [← hq_]; exact (by (with_reducible repeat (first | apply Kd.R_alloc | apply Kd.R_drewN | apply Kd.R_drew)); exact HO_8.out)⟩; have n2_ : Aside0 (Below w.heap.size w wr) := ⟨by rw [← hq_]; exact blw_⟩; clear HO_7 HO_8 HB hq_; have HO_7 := n0_; have HO_8 := n1_; have HB := n2_; clear n0_ n1_ n2_))) | ((with_reducible refine gate_callee (f := 59) rfl ?_); refine goesC_ (some 52) Tryd.func59 #[.slice A1 l1.length c1, .int .i64 (rd t441 x10_1)] ?_; (with_reducible refine (spec_isIn.calls k1 _ _ l1 (rd t441 x10_1) true _ ?side1 ?side2 A23.out).mono ?_); (case side1 => exact cw_ (Kd.C_below HR1.out HB.out)); (case side2 => exact HC1.out); rintro e w' ⟨rfl, ⟨nd, rfl⟩⟩; refine ⟨_, rfl, ?_⟩; (try (rw [drewN_self wr]; generalize hq_ : World.drewN wr _ = wr; have n0_ : Aside0 (Kd.R (Kd.int .i64) 3 wr w.heap.size (fun k_ => some k_ ≠ (.slice (some ad444) t441.length co27 : Value).ownBlock) (.slice Ao28 x7_1.length co28) x7_1) := ⟨by rw [← hq_]; exact (by (with_reducible repeat (first | apply Kd.R_alloc | apply Kd.R_drewN | apply Kd.R_drew)); exact HO_7.out)⟩; have n1_ : Aside0 (Kd.R (Kd.int .i64) 3 wr w.heap.size (fun k_ => some k_ ≠ (.slice Ao28 x7_1.length co28 : Value).ownBlock) (.slice (some ad444) t441.length co27) t441) := ⟨by rw [← hq_]; exact (by (with_reducible repeat (first | apply Kd.R_alloc | apply Kd.R_drewN | apply Kd.R_drew)); exact HO_8.out)⟩; have n2_ : Aside0 (Below w.heap.size w wr) := ⟨by rw [← hq_]; exact blw_⟩; clear HO_7 HO_8 HB hq_; have HO_7 := n0_; have HO_8 := n1_; have HB := n2_; clear n0_ n1_ n2_)); have p26 : 0 ≤ ((rd t441 x10_1) : Int) := of_decide_eq_true (by first | (with_reducible assumption) | assumption); have q26 : ((rd t441 x10_1) : Int) < ((x7_1.length : Int) : Int) := of_decide_eq_true (by first | (with_reducible assumption) | assumption); obtain ⟨go26, co26, eo26, gb26, gl26, cl26, HG26⟩ := Kd.R_form HO_7.out (by omega); (first | cases eo26 | (injection eo26 with ea_ en_ ec_; (first | subst ea_ | (injection ea_ with ea_; subst ea_)); subst ec_; clear en_)); have GB26 := Aside0.mk gb26; have GG26 := Aside0.mk HG26; clear gb26 gl26 HG26; obtain ⟨hx26_0, hf26_0⟩ := Kd.R_celln 0 HO_7.out ((rd t441 x10_1) : Int) p26 q26; replace p26 := eq_true p26; replace q26 := eq_true q26; obtain ⟨hy29_, hz29_⟩ := Kd.R_celln 0 HO_7.out ((rd t441 x10_1) : Int) (of_decide_eq_true (by first | (with_reducible assumption) | assumption)) (of_decide_eq_true (by first | (with_reducible assumption) | assumption)); have HP29 := Kd.R_putg HO_7.out ((rd t441 x10_1) : Int) 1) | ((with_reducible refine gate_store (t := 3) (p := 55) rfl ?_); refine store_event (t := 3) (p := 55) (v := ?vo_w30) (w1 := (wr.setCell ⟨go26, ((rd t441 x10_1) : Int).toNat, none⟩ (.int .i64 1))) ?hg ?ho ?hn ?hr ?_; (case ho => rfl); (case hg => rfl); (case hn => rfl); (case hr => first | (go_simp; done) | (go_simp; rfl)); intro w30 hw; have hg : wr.grownBy w30 (some go26) := (by rw [hw]; exact HP29.2); have hp_ : Kd.R (Kd.int .i64) 3 w30 w.heap.size (fun k_ => some k_ ≠ (.slice (some ad444) t441.length co27 : Value).ownBlock) (.slice (some ⟨go26, 0, none⟩) x7_1.length co28) y449 := (by rw [hw, Ny449.out]; exact HP29.1); clear HP29; have n0_ := Aside0.mk (hp_); have n1_ := Aside0.mk (Kd.R_after (v := (.slice (some ⟨go26, 0, none⟩) x7_1.length co28)) (v1 := (.slice (some ⟨go26, 0, none⟩) x7_1.length co28)) (ok := (fun _ => True)) (by (with_reducible repeat (first | apply Kd.R_alloc | apply Kd.R_drewN | apply Kd.R_drew)); exact Kd.R_mono HO_8.out (fun _ hk => ⟨trivial, hk⟩)) hg (.inl rfl)); have n2_ := Aside0.mk ((by rw [hw]; exact below_set (HB.out) GB26.out : Below w.heap.size w w30)); clear HO_7; clear HO_8; clear HB; have HO_7 := n0_; have HO_8 := n1_; have HB := n2_; clear n0_ n1_ n2_; clear hg hw hp_))
             go_roundg k1
             case measure => have := HK1.out; omega
             case rel => exact ⟨(y449), (wrap64 (x9_1 + 1)), (wrap64 (x10_1 + 1)), (by first | rfl | (simp; done) | (simp [*]; done)), (by first | rfl | (simp; done) | (simp [*]; done)), H', ⟨by have := HK1.out; omega⟩, ⟨rw_ HO_7.out⟩, ⟨by (with_reducible repeat (first | apply Kd.R_alloc | apply Kd.R_drewN | apply Kd.R_drew)); exact Kd.R_mono HO_8.out (fun _ hk => hk.2)⟩, ⟨blw_⟩⟩
            ·rw [if_neg c25] at H
             exact absurd H (by simp)
           ·replace c24 := Bool.eq_false_iff.mpr c24
            subst c24
            have H1 : (if (rd t441 x10_1) < (x7_1.length : Int) then (spec_outcome.l0 k1 l0 l1 a2 (x7_1.set ((rd t441 x10_1) : Int).toNat 0) t441 x9_1 (wrap64 (x10_1 + 1))) else (none)) = some r := by rw [if_neg (show ¬ (false = true) by decide)] at H; exact H
            clear H
            have H := H1
            clear H1
            by_cases c31 : (rd t441 x10_1) < (x7_1.length : Int)
            ·rw [if_pos c31] at H
             have c31b0 : decide ((rd t441 x10_1) < (x7_1.length : Int)) = true := decide_eq_true c31
             clear c31
             obtain ⟨y450, hy450⟩ : ∃ y_ : List Int, y_ = (x7_1.set ((rd t441 x10_1) : Int).toNat 0) := ⟨_, rfl⟩
             replace H : (spec_outcome.l0 k1 l0 l1 a2 y450 t441 x9_1 (wrap64 (x10_1 + 1))) = some r := by first | (rw [hy450]; with_reducible exact H) | (have H2_ := (Option.bind_some _ _).symm.trans H; rw [hy450]; with_reducible exact H2_) | (have H2_ := (Option.bind_some _ _).symm.trans H; with_reducible exact H2_) | with_reducible exact H | (rw [hy450]; exact H) | exact H
             have Ny450 := Aside0.mk hy450
             clear hy450
             have H' := Aside0.mk H
             clear H
             obtain ⟨Ao33, co33, eo33⟩ := Kd.R_slice HO_8.out
             subst eo33
             have p444 : 0 ≤ (x10_1 : Int) := of_decide_eq_true (by first | (with_reducible assumption) | assumption)
             have q444 : x10_1 < (t441.length : Int) := of_decide_eq_true (by first | (with_reducible assumption) | assumption)
             obtain ⟨ad444, e444, hx444_0⟩ := Kd.at_int (Kd.R_reads' HO_8.out).2.2 x10_1 p444 q444
             cases e444
             replace p444 := eq_true p444
             replace q444 := eq_true q444
             have p446 : 0 ≤ ((rd t441 x10_1) : Int) := of_decide_eq_true (by first | (with_reducible assumption) | assumption)
             have q446 : (rd t441 x10_1) < (l0.length : Int) := of_decide_eq_true (by first | (with_reducible assumption) | assumption)
             obtain ⟨ad446, A446_1, c446_1, e446, hx446_0, hx446_1, hx446_2, hx446_3, hl446_1, hi446_1⟩ := at_T74 HR0.out (rd t441 x10_1) p446 q446
             cases e446
             replace hx446_0 := (HB.out.cell (World.block_lt_of_cell? w _ hx446_0)).trans hx446_0
             replace hx446_1 := (HB.out.cell (World.block_lt_of_cell? w _ hx446_1)).trans hx446_1
             replace hx446_2 := (HB.out.cell (World.block_lt_of_cell? w _ hx446_2)).trans hx446_2
             replace hx446_3 := (HB.out.cell (World.block_lt_of_cell? w _ hx446_3)).trans hx446_3
             have HR446_1 := Aside0.mk hi446_1
             have HC446_1 := Aside0.mk hl446_1
             clear hi446_1 hl446_1
             replace p446 := eq_true p446
             replace q446 := eq_true q446
             obtain ⟨Ao34, co34, eo34⟩ := Kd.R_slice HO_7.out
             subst eo34
             go_wp2_with (first | ((with_reducible refine gate_callee (f := 79) rfl ?_); refine goesC_ (some 44) Tryd.func79 #[.slice A446_1 ((rd_T74 l0 (rd t441 x10_1)).f1).length c446_1, .slice Ao34 x7_1.length co34] ?_; (with_reducible refine (spec_needsFine.calls k1 _ _ ((rd_T74 l0 (rd t441 x10_1)).f1) _ _ x7_1 true _ ?side1 ?side2 ?side3 ?side4 A21.out).mono ?_); (case side1 => exact cw_ (Kd.C_below HR446_1.out HB.out)); (case side2 => exact HC446_1.out); (case side3 => exact cw_ (Kd.R_reads' HO_7.out).2.2); (case side4 => exact (Kd.R_reads' HO_7.out).2.1); rintro e w' ⟨rfl, ⟨nd, rfl⟩⟩; refine ⟨_, rfl, ?_⟩; (try (rw [drewN_self wr]; generalize hq_ : World.drewN wr _ = wr; have n0_ : Aside0 (Kd.R (Kd.int .i64) 3 wr w.heap.size (fun k_ => some k_ ≠ (.slice (some ad444) t441.length co33 : Value).ownBlock) (.slice Ao34 x7_1.length co34) x7_1) := ⟨by rw [← hq_]; exact (by (with_reducible repeat (first | apply Kd.R_alloc | apply Kd.R_drewN | apply Kd.R_drew)); exact HO_7.out)⟩; have n1_ : Aside0 (Kd.R (Kd.int .i64) 3 wr w.heap.size (fun k_ => some k_ ≠ (.slice Ao34 x7_1.length co34 : Value).ownBlock) (.slice (some ad444) t441.length co33) t441) := ⟨by rw [← hq_]; exact (by (with_reducible repeat (first | apply Kd.R_alloc | apply Kd.R_drewN | apply Kd.R_drew)); exact HO_8.out)⟩; have n2_ : Aside0 (Below w.heap.size w wr) := ⟨by rw [← hq_]; exact blw_⟩; clear HO_7 HO_8 HB hq_; have HO_7 := n0_; have HO_8 := n1_; have HB := n2_; clear n0_ n1_ n2_))) | ((with_reducible refine gate_callee (f := 59) rfl ?_); refine goesC_ (some 52) Tryd.func59 #[.slice A1 l1.length c1, .int .i64 (rd t441 x10_1)] ?_; (with_reducible refine (spec_isIn.calls k1 _ _ l1 (rd t441 x10_1) false _ ?side1 ?side2 A23.out).mono ?_); (case side1 => exact cw_ (Kd.C_below HR1.out HB.out)); (case side2 => exact HC1.out); rintro e w' ⟨rfl, ⟨nd, rfl⟩⟩; refine ⟨_, rfl, ?_⟩; (try (rw [drewN_self wr]; generalize hq_ : World.drewN wr _ = wr; have n0_ : Aside0 (Kd.R (Kd.int .i64) 3 wr w.heap.size (fun k_ => some k_ ≠ (.slice (some ad444) t441.length co33 : Value).ownBlock) (.slice Ao34 x7_1.length co34) x7_1) := ⟨by rw [← hq_]; exact (by (with_reducible repeat (first | apply Kd.R_alloc | apply Kd.R_drewN | apply Kd.R_drew)); exact HO_7.out)⟩; have n1_ : Aside0 (Kd.R (Kd.int .i64) 3 wr w.heap.size (fun k_ => some k_ ≠ (.slice Ao34 x7_1.length co34 : Value).ownBlock) (.slice (some ad444) t441.length co33) t441) := ⟨by rw [← hq_]; exact (by (with_reducible repeat (first | apply Kd.R_alloc | apply Kd.R_drewN | apply Kd.R_drew)); exact HO_8.out)⟩; have n2_ : Aside0 (Below w.heap.size w wr) := ⟨by rw [← hq_]; exact blw_⟩; clear HO_7 HO_8 HB hq_; have HO_7 := n0_; have HO_8 := n1_; have HB := n2_; clear n0_ n1_ n2_)); have p32 : 0 ≤ ((rd t441 x10_1) : Int) := of_decide_eq_true (by first | (with_reducible assumption) | assumption); have q32 : ((rd t441 x10_1) : Int) < ((x7_1.length : Int) : Int) := of_decide_eq_true (by first | (with_reducible assumption) | assumption); obtain ⟨go32, co32, eo32, gb32, gl32, cl32, HG32⟩ := Kd.R_form HO_7.out (by omega); (first | cases eo32 | (injection eo32 with ea_ en_ ec_; (first | subst ea_ | (injection ea_ with ea_; subst ea_)); subst ec_; clear en_)); have GB32 := Aside0.mk gb32; have GG32 := Aside0.mk HG32; clear gb32 gl32 HG32; obtain ⟨hx32_0, hf32_0⟩ := Kd.R_celln 0 HO_7.out ((rd t441 x10_1) : Int) p32 q32; replace p32 := eq_true p32; replace q32 := eq_true q32; obtain ⟨hy35_, hz35_⟩ := Kd.R_celln 0 HO_7.out ((rd t441 x10_1) : Int) (of_decide_eq_true (by first | (with_reducible assumption) | assumption)) (of_decide_eq_true (by first | (with_reducible assumption) | assumption)); have HP35 := Kd.R_putg HO_7.out ((rd t441 x10_1) : Int) 0) | ((with_reducible refine gate_store (t := 3) (p := 29) rfl ?_); refine store_event (t := 3) (p := 29) (v := ?vo_w36) (w1 := (wr.setCell ⟨go32, ((rd t441 x10_1) : Int).toNat, none⟩ (.int .i64 0))) ?hg ?ho ?hn ?hr ?_; (case ho => rfl); (case hg => rfl); (case hn => rfl); (case hr => first | (go_simp; done) | (go_simp; rfl)); intro w36 hw; have hg : wr.grownBy w36 (some go32) := (by rw [hw]; exact HP35.2); have hp_ : Kd.R (Kd.int .i64) 3 w36 w.heap.size (fun k_ => some k_ ≠ (.slice (some ad444) t441.length co33 : Value).ownBlock) (.slice (some ⟨go32, 0, none⟩) x7_1.length co34) y450 := (by rw [hw, Ny450.out]; exact HP35.1); clear HP35; have n0_ := Aside0.mk (hp_); have n1_ := Aside0.mk (Kd.R_after (v := (.slice (some ⟨go32, 0, none⟩) x7_1.length co34)) (v1 := (.slice (some ⟨go32, 0, none⟩) x7_1.length co34)) (ok := (fun _ => True)) (by (with_reducible repeat (first | apply Kd.R_alloc | apply Kd.R_drewN | apply Kd.R_drew)); exact Kd.R_mono HO_8.out (fun _ hk => ⟨trivial, hk⟩)) hg (.inl rfl)); have n2_ := Aside0.mk ((by rw [hw]; exact below_set (HB.out) GB32.out : Below w.heap.size w w36)); clear HO_7; clear HO_8; clear HB; have HO_7 := n0_; have HO_8 := n1_; have HB := n2_; clear n0_ n1_ n2_; clear hg hw hp_))
             go_roundg k1
             case measure => have := HK1.out; omega
             case rel => exact ⟨(y450), (x9_1), (wrap64 (x10_1 + 1)), (by first | rfl | (simp; done) | (simp [*]; done)), (by first | rfl | (simp; done) | (simp [*]; done)), H', ⟨by have := HK1.out; omega⟩, ⟨rw_ HO_7.out⟩, ⟨by (with_reducible repeat (first | apply Kd.R_alloc | apply Kd.R_drewN | apply Kd.R_drew)); exact Kd.R_mono HO_8.out (fun _ hk => hk.2)⟩, ⟨blw_⟩⟩
            ·rw [if_neg c31] at H
             exact absurd H (by simp)
          ·replace c22 := Bool.eq_false_iff.mpr c22
           subst c22
           have H1 : (if (rd t441 x10_1) < (x7_1.length : Int) then (spec_outcome.l0 k1 l0 l1 a2 (x7_1.set ((rd t441 x10_1) : Int).toNat 2) t441 x9_1 (wrap64 (x10_1 + 1))) else (none)) = some r := by rw [if_neg (show ¬ (false = true) by decide)] at H; exact H
           clear H
           have H := H1
           clear H1
           by_cases c37 : (rd t441 x10_1) < (x7_1.length : Int)
           ·rw [if_pos c37] at H
            have c37b0 : decide ((rd t441 x10_1) < (x7_1.length : Int)) = true := decide_eq_true c37
            clear c37
            obtain ⟨y451, hy451⟩ : ∃ y_ : List Int, y_ = (x7_1.set ((rd t441 x10_1) : Int).toNat 2) := ⟨_, rfl⟩
            replace H : (spec_outcome.l0 k1 l0 l1 a2 y451 t441 x9_1 (wrap64 (x10_1 + 1))) = some r := by first | (rw [hy451]; with_reducible exact H) | (have H2_ := (Option.bind_some _ _).symm.trans H; rw [hy451]; with_reducible exact H2_) | (have H2_ := (Option.bind_some _ _).symm.trans H; with_reducible exact H2_) | with_reducible exact H | (rw [hy451]; exact H) | exact H
            have Ny451 := Aside0.mk hy451
            clear hy451
            have H' := Aside0.mk H
            clear H
            obtain ⟨Ao39, co39, eo39⟩ := Kd.R_slice HO_8.out
            subst eo39
            have p444 : 0 ≤ (x10_1 : Int) := of_decide_eq_true (by first | (with_reducible assumption) | assumption)
            have q444 : x10_1 < (t441.length : Int) := of_decide_eq_true (by first | (with_reducible assumption) | assumption)
            obtain ⟨ad444, e444, hx444_0⟩ := Kd.at_int (Kd.R_reads' HO_8.out).2.2 x10_1 p444 q444
            cases e444
            replace p444 := eq_true p444
            replace q444 := eq_true q444
            have p446 : 0 ≤ ((rd t441 x10_1) : Int) := of_decide_eq_true (by first | (with_reducible assumption) | assumption)
            have q446 : (rd t441 x10_1) < (l0.length : Int) := of_decide_eq_true (by first | (with_reducible assumption) | assumption)
            obtain ⟨ad446, A446_1, c446_1, e446, hx446_0, hx446_1, hx446_2, hx446_3, hl446_1, hi446_1⟩ := at_T74 HR0.out (rd t441 x10_1) p446 q446
            cases e446
            replace hx446_0 := (HB.out.cell (World.block_lt_of_cell? w _ hx446_0)).trans hx446_0
            replace hx446_1 := (HB.out.cell (World.block_lt_of_cell? w _ hx446_1)).trans hx446_1
            replace hx446_2 := (HB.out.cell (World.block_lt_of_cell? w _ hx446_2)).trans hx446_2
            replace hx446_3 := (HB.out.cell (World.block_lt_of_cell? w _ hx446_3)).trans hx446_3
            have HR446_1 := Aside0.mk hi446_1
            have HC446_1 := Aside0.mk hl446_1
            clear hi446_1 hl446_1
            replace p446 := eq_true p446
            replace q446 := eq_true q446
            obtain ⟨Ao40, co40, eo40⟩ := Kd.R_slice HO_7.out
            subst eo40
            go_wp2_with (first | ((with_reducible refine gate_callee (f := 79) rfl ?_); refine goesC_ (some 44) Tryd.func79 #[.slice A446_1 ((rd_T74 l0 (rd t441 x10_1)).f1).length c446_1, .slice Ao40 x7_1.length co40] ?_; (with_reducible refine (spec_needsFine.calls k1 _ _ ((rd_T74 l0 (rd t441 x10_1)).f1) _ _ x7_1 false _ ?side1 ?side2 ?side3 ?side4 A21.out).mono ?_); (case side1 => exact cw_ (Kd.C_below HR446_1.out HB.out)); (case side2 => exact HC446_1.out); (case side3 => exact cw_ (Kd.R_reads' HO_7.out).2.2); (case side4 => exact (Kd.R_reads' HO_7.out).2.1); rintro e w' ⟨rfl, ⟨nd, rfl⟩⟩; refine ⟨_, rfl, ?_⟩; (try (rw [drewN_self wr]; generalize hq_ : World.drewN wr _ = wr; have n0_ : Aside0 (Kd.R (Kd.int .i64) 3 wr w.heap.size (fun k_ => some k_ ≠ (.slice (some ad444) t441.length co39 : Value).ownBlock) (.slice Ao40 x7_1.length co40) x7_1) := ⟨by rw [← hq_]; exact (by (with_reducible repeat (first | apply Kd.R_alloc | apply Kd.R_drewN | apply Kd.R_drew)); exact HO_7.out)⟩; have n1_ : Aside0 (Kd.R (Kd.int .i64) 3 wr w.heap.size (fun k_ => some k_ ≠ (.slice Ao40 x7_1.length co40 : Value).ownBlock) (.slice (some ad444) t441.length co39) t441) := ⟨by rw [← hq_]; exact (by (with_reducible repeat (first | apply Kd.R_alloc | apply Kd.R_drewN | apply Kd.R_drew)); exact HO_8.out)⟩; have n2_ : Aside0 (Below w.heap.size w wr) := ⟨by rw [← hq_]; exact blw_⟩; clear HO_7 HO_8 HB hq_; have HO_7 := n0_; have HO_8 := n1_; have HB := n2_; clear n0_ n1_ n2_)); have p38 : 0 ≤ ((rd t441 x10_1) : Int) := of_decide_eq_true (by first | (with_reducible assumption) | assumption); have q38 : ((rd t441 x10_1) : Int) < ((x7_1.length : Int) : Int) := of_decide_eq_true (by first | (with_reducible assumption) | assumption); obtain ⟨go38, co38, eo38, gb38, gl38, cl38, HG38⟩ := Kd.R_form HO_7.out (by omega); (first | cases eo38 | (injection eo38 with ea_ en_ ec_; (first | subst ea_ | (injection ea_ with ea_; subst ea_)); subst ec_; clear en_)); have GB38 := Aside0.mk gb38; have GG38 := Aside0.mk HG38; clear gb38 gl38 HG38; obtain ⟨hx38_0, hf38_0⟩ := Kd.R_celln 0 HO_7.out ((rd t441 x10_1) : Int) p38 q38; replace p38 := eq_true p38; replace q38 := eq_true q38; obtain ⟨hy41_, hz41_⟩ := Kd.R_celln 0 HO_7.out ((rd t441 x10_1) : Int) (of_decide_eq_true (by first | (with_reducible assumption) | assumption)) (of_decide_eq_true (by first | (with_reducible assumption) | assumption)); have HP41 := Kd.R_putg HO_7.out ((rd t441 x10_1) : Int) 2) | ((with_reducible refine gate_store (t := 3) (p := 48) rfl ?_); refine store_event (t := 3) (p := 48) (v := ?vo_w42) (w1 := (wr.setCell ⟨go38, ((rd t441 x10_1) : Int).toNat, none⟩ (.int .i64 2))) ?hg ?ho ?hn ?hr ?_; (case ho => rfl); (case hg => rfl); (case hn => rfl); (case hr => first | (go_simp; done) | (go_simp; rfl)); intro w42 hw; have hg : wr.grownBy w42 (some go38) := (by rw [hw]; exact HP41.2); have hp_ : Kd.R (Kd.int .i64) 3 w42 w.heap.size (fun k_ => some k_ ≠ (.slice (some ad444) t441.length co39 : Value).ownBlock) (.slice (some ⟨go38, 0, none⟩) x7_1.length co40) y451 := (by rw [hw, Ny451.out]; exact HP41.1); clear HP41; have n0_ := Aside0.mk (hp_); have n1_ := Aside0.mk (Kd.R_after (v := (.slice (some ⟨go38, 0, none⟩) x7_1.length co40)) (v1 := (.slice (some ⟨go38, 0, none⟩) x7_1.length co40)) (ok := (fun _ => True)) (by (with_reducible repeat (first | apply Kd.R_alloc | apply Kd.R_drewN | apply Kd.R_drew)); exact Kd.R_mono HO_8.out (fun _ hk => ⟨trivial, hk⟩)) hg (.inl rfl)); have n2_ := Aside0.mk ((by rw [hw]; exact below_set (HB.out) GB38.out : Below w.heap.size w w42)); clear HO_7; clear HO_8; clear HB; have HO_7 := n0_; have HO_8 := n1_; have HB := n2_; clear n0_ n1_ n2_; clear hg hw hp_))
            go_roundg k1
            case measure => have := HK1.out; omega
            case rel => exact ⟨(y451), (x9_1), (wrap64 (x10_1 + 1)), (by first | rfl | (simp; done) | (simp [*]; done)), (by first | rfl | (simp; done) | (simp [*]; done)), H', ⟨by have := HK1.out; omega⟩, ⟨rw_ HO_7.out⟩, ⟨by (with_reducible repeat (first | apply Kd.R_alloc | apply Kd.R_drewN | apply Kd.R_drew)); exact Kd.R_mono HO_8.out (fun _ hk => hk.2)⟩, ⟨blw_⟩⟩
           ·rw [if_neg c37] at H
            exact absurd H (by simp)
         ·rw [if_neg c20] at H
          exact absurd H (by simp)
        ·rw [if_neg c19] at H
         exact absurd H (by simp)
      ·rw [if_neg c11] at H
       exact absurd H (by simp)
     ·rw [if_neg c10] at H
      have c10b0 : decide (x10_1 < (t441.length : Int)) = false := decide_eq_false c10
      clear c10
      obtain rfl := Option.some.inj H
      obtain ⟨Ao43, co43, eo43⟩ := Kd.R_slice HO_8.out
      subst eo43
      go_wp2
      go_ret
      exact ⟨_, by first | rfl | (simp [errW_none, errW_some] <;> rfl) | (simp [*, errW_none, errW_some] <;> rfl), by (with_reducible repeat (first | apply Kd.R_alloc | apply Kd.R_drewN | apply Kd.R_drew)); exact Kd.R_mono HO_7.out (fun _ hk => trivial), blw_⟩
  ·rw [if_neg c5] at H
   exact absurd H (by simp)
 ·rw [if_neg c4] at H
  exact absurd H (by simp)

end Go.Proofs.YtgdoajmgheokbaaDoor.G
