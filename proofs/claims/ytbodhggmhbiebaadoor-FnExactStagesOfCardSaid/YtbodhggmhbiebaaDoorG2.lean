-- SLIM
-- Written by hyb.py, a driver of this session round the print.py of the kit. Lean checks it.
import Derived.Test.YtbodhggmhbiebaaDoorWRepsOne
import Derived.Test.YtbodhggmhbiebaaDoorWTab
import Derived.Test.YtbodhggmhbiebaaDoorG0
import Derived.Test.YtbodhggmhbiebaaDoorG1
namespace Go.Proofs.YtbodhggmhbiebaaDoor.G
open Go.RowKit Go.Proofs.YtbodhggmhbiebaaDoorW.PrintWords Go.Proofs.YtbodhggmhbiebaaDoorW.PrintLast Go.Proofs.YtbodhggmhbiebaaDoorW.PrintMore
attribute [local go_sem] max2_int min2_int max_two min_two max_three min_three max_four min_four   -- for this text's walks alone
set_option linter.unusedVariables false
set_option linter.unusedSimpArgs false

/-! ### spec_levels: function 37 -/
mutual
def spec_levels.l0 : Nat → List (S29) → List Int → List Int → Int → Option (List Int)
 | 0, _, _, _, _ => none
 | k + 1, x0, x3, x4, x5 => if x5 < (x4.length : Int) then (if 0 ≤ x5 then (spec_levels.l1 k x0 x3 x4 x5 (rd x4 x5) 0) else (none)) else (some x3)
def spec_levels.l1 : Nat → List (S29) → List Int → List Int → Int → Int → Int → Option (List Int)
 | 0, _, _, _, _, _, _ => none
 | k + 1, x0, x3, x4, x5, x6, x7 => if 0 ≤ x6 then (if x6 < (x0.length : Int) then (if x7 < (((rd_T29 x0 x6).f1).length : Int) then (if x6 < (x3.length : Int) then (if 0 ≤ x7 then (if 0 ≤ (rd ((rd_T29 x0 x6).f1) x7) then (if (rd ((rd_T29 x0 x6).f1) x7) < (x3.length : Int) then (spec_levels.l1 k x0 (x3.set (x6 : Int).toNat (mx (rd x3 x6) (wrap64 ((rd x3 (rd ((rd_T29 x0 x6).f1) x7)) + 1)))) x4 x5 x6 (wrap64 (x7 + 1))) else (none)) else (none)) else (none)) else (none)) else (spec_levels.l0 k x0 x3 x4 (wrap64 (x5 + 1)))) else (none)) else (none)
end
def spec_levels.f (k : Nat) (l0 : List (S29)) : Option (List Int) := if 0 ≤ (l0.length : Int) then (if ((l0.length : Int) : Int).toNat ≤ 35184372088832 then ((spec_topOrder.f k l0).bind fun t245 => (spec_levels.l0 k l0 (List.replicate ((l0.length : Int) : Int).toNat 0) t245 0)) else (none)) else (none)
def spec_levels.T10 : Bool × List (List Nat × List Nat) := (true, [([], []), ([], []), ([], []), ([], []), ([2, 3], [2, 3]), ([4], [4]), ([], []), ([], []), ([], []), ([7, 8], [7, 8]), ([9], [9]), ([10], [10]), ([], []), ([11, 12], [11, 12]), ([13], [13]), ([6, 14], [6, 14]), ([15], [15]), ([16], [16]), ([5, 17], [5, 17]), ([0, 1, 0, 1, 2, 3, 4, 5, 6, 7, 8, 9, 10, 11, 12, 13, 14, 15, 16, 17, 18], [0, 1]), ([19, 18, 0, 1, 2, 3, 4, 5, 6, 7, 8, 9, 10, 11, 12, 13, 14, 15, 16, 17, 18], [18, 19])])
def spec_levels.B10 : List Nat := [0, 0, 0, 0, 12, 28, 0, 0, 0, 384, 896, 1920, 0, 8064, 16256, 32704, 65472, 131008, 262140, 524287, 1048575]
theorem spec_levels.tab10 : rtab .any (opsOf Tryd.f37 10) = spec_levels.T10 := by kernel_rfl
theorem spec_levels.bits10 : waitsOk spec_levels.T10.2 spec_levels.B10 = true := by kernel_rfl
set_option maxHeartbeats 8000000 in
set_option maxRecDepth 100000 in
theorem spec_levels.calls (k : Nat) (A0 : Option Addr) (c0 : Nat) (l0 : List (S29)) (r : List Int) (w : World) (hr0 : Kd.C k29 w A0 l0.length l0) (hc0 : l0.length ≤ c0) (h : spec_levels.f k l0 = some r) :
  Calls Tryd.prog 37 #[.slice A0 l0.length c0] w fun e w' => ∃ v0_ : Value, e = .returned (v0_) ∧ Kd.R (Kd.int .i64) 3 w' w.heap.size (fun _ => True) v0_ r ∧ Below w.heap.size w w' := by
 have HR0 := Aside0.mk hr0
 have HC0 := Aside0.mk hc0
 clear hr0 hc0
 have HB := Aside0.mk (Below.refl w.heap.size w)
 have H : (if 0 ≤ (l0.length : Int) then (if ((l0.length : Int) : Int).toNat ≤ 35184372088832 then ((spec_topOrder.f k l0).bind fun t245 => (spec_levels.l0 k l0 (List.replicate ((l0.length : Int) : Int).toNat 0) t245 0)) else (none)) else (none)) = some r := h
 clear h
 by_cases c2 : 0 ≤ (l0.length : Int)
 ·rw [if_pos c2] at H
  have c2b0 := eq_true c2
  have c2b1 : decide (0 ≤ (l0.length : Int)) = true := decide_eq_true c2
  clear c2
  by_cases c3 : ((l0.length : Int) : Int).toNat ≤ 35184372088832
  ·rw [if_pos c3] at H
   have c3b0 := eq_true c3
   have c3b1 : decide (((l0.length : Int) : Int).toNat ≤ 35184372088832) = true := decide_eq_true c3
   clear c3
   obtain ⟨y242, hy242⟩ : ∃ y_ : List Int, y_ = (List.replicate ((l0.length : Int) : Int).toNat 0) := ⟨_, rfl⟩
   replace H : ((spec_topOrder.f k l0).bind fun t245 => (spec_levels.l0 k l0 y242 t245 0)) = some r := by first | (rw [hy242]; with_reducible exact H) | (have H2_ := (Option.bind_some _ _).symm.trans H; rw [hy242]; with_reducible exact H2_) | (have H2_ := (Option.bind_some _ _).symm.trans H; with_reducible exact H2_) | with_reducible exact H | (rw [hy242]; exact H) | exact H
   have Ny242 := Aside0.mk hy242
   clear hy242
   replace H := Option.bind_eq_some_iff.mp H
   obtain ⟨t245, A40, H⟩ := H
   replace H : (spec_levels.l0 k l0 y242 t245 0) = some r := H
   have A4 := Aside0.mk A40
   clear A40
   have H' := Aside0.mk H
   clear H
   go_enter Tryd.func37, Tryd.ntmps37
   go_wp2_with (first | ((with_reducible refine gate_dst (N := 10) rfl ?_); refine Kd.R_make (Kd.int .i64) _ 3 rfl (N := 10) rfl 25 _ _ rfl (l0.length : Int) rfl rfl Tryd.underlying25 (.int .i64 0) 8 info3 rfl (by decide) (by omega) 0 (ok := fun _ => True) (okp := fun _ => True) rfl (fun _ hk => hk) trivial (of_decide_eq_true (by first | (with_reducible assumption) | assumption)) (Nat.le_trans (Nat.mul_le_mul_right _ (of_decide_eq_true (by first | (with_reducible assumption) | assumption) : (l0.length : Int).toNat ≤ 35184372088832)) (by omega)) (Below.refl _ _) (Nat.le_refl _) ?_; intro v243 w5 ho6 hb hg_ hnew_; clear hg_ hnew_; (first | rw [← Ny242.out] at ho6 | (simp only [Int.reduceToNat] at ho6; rw [← Ny242.out] at ho6)); have n0_ := Aside0.mk (Kd.R_lower ho6 (below_size blw_)); have n1_ := Aside0.mk (below_step blw_ hb); clear HB; have HO244 := n0_; have HB := n1_; clear n0_ n1_; clear hb ho6) | ((with_reducible refine gate_callee (f := 56) rfl ?_); refine goesC_ (some 12) Tryd.func56 #[.slice A0 l0.length c0] ?_; (with_reducible refine (spec_topOrder.calls k _ _ l0 t245 _ ?side1 ?side2 A4.out).mono ?_); (case side1 => exact cw_ (Kd.C_below HR0.out HB.out)); (case side2 => exact HC0.out); rintro e w7 ⟨v246, rfl, ho0, hb⟩; refine ⟨_, rfl, ?_⟩; have n0_ := Aside0.mk (Kd.R_elder' (by (with_reducible repeat (first | apply Kd.R_alloc | apply Kd.R_drewN | apply Kd.R_drew)); exact HO244.out) (Kd.R_base ho0) hb); have n1_ := Aside0.mk (Kd.R_lower (Kd.R_new' ho0 (Kd.R_lt (by (with_reducible repeat (first | apply Kd.R_alloc | apply Kd.R_drewN | apply Kd.R_drew)); exact HO244.out))) (below_size blw_)); have n2_ := Aside0.mk (below_step blw_ hb); clear HO244; clear HB; have HO244 := n0_; have HO247 := n1_; have HB := n2_; clear n0_ n1_ n2_; (try clear hb); (try clear hb2); (try clear hk); (try clear hi); (try clear ho0)))
   go_loopg [5] k (fun kq v5 w' => ∃ (x3_1 : List Int) (x5_1 : Int), v5 = .int .i64 x5_1 ∧ Aside0 (spec_levels.l0 kq l0 x3_1 t245 x5_1 = some r) ∧ Aside0 (kq ≤ k) ∧ Aside0 (Kd.R (Kd.int .i64) 3 w' w.heap.size (fun k_ => some k_ ≠ (v246 : Value).ownBlock) v243 x3_1) ∧ Aside0 (Kd.R (Kd.int .i64) 3 w' w.heap.size (fun k_ => some k_ ≠ (v243 : Value).ownBlock) v246 t245) ∧ Aside0 (Below w.heap.size w w'))
   case atStart => exact ⟨(y242), (0), (by first | rfl | (simp; done) | (simp [*]; done)), H', ⟨Nat.le_refl _⟩, ⟨by (with_reducible repeat (first | apply Kd.R_alloc | apply Kd.R_drewN | apply Kd.R_drew)); exact Kd.R_mono HO244.out (fun _ hk => hk.2)⟩, ⟨by (with_reducible repeat (first | apply Kd.R_alloc | apply Kd.R_drewN | apply Kd.R_drew)); exact Kd.R_mono HO247.out (fun _ hk => hk.2)⟩, ⟨blw_⟩⟩
   case round =>
    clear H'
    try clear c2
    try clear c2b0
    try clear c2b1
    try clear p2
    try clear c3
    try clear c3b0
    try clear c3b1
    try clear c5
    obtain ⟨x3_1, x5_1, rfl, HA, HK1, HO_3, HO_4, HB⟩ := hrel
    cases gk with
    | zero => exact absurd HA.out (by simp [spec_levels.l0])
    | succ k1 =>
     have H := HA.out
     clear HA
     simp only [spec_levels.l0] at H
     by_cases c8 : x5_1 < (t245.length : Int)
     ·rw [if_pos c8] at H
      have c8b0 : decide (x5_1 < (t245.length : Int)) = true := decide_eq_true c8
      clear c8
      by_cases c9 : 0 ≤ x5_1
      ·rw [if_pos c9] at H
       have c9b0 : decide (0 ≤ x5_1) = true := decide_eq_true c9
       clear c9
       have H' := Aside0.mk H
       clear H
       obtain ⟨Ao10, co10, eo10⟩ := Kd.R_slice HO_4.out
       subst eo10
       have p248 : 0 ≤ (x5_1 : Int) := of_decide_eq_true (by first | (with_reducible assumption) | assumption)
       have q248 : x5_1 < (t245.length : Int) := of_decide_eq_true (by first | (with_reducible assumption) | assumption)
       obtain ⟨ad248, e248, hx248_0⟩ := Kd.at_int (Kd.R_reads' HO_4.out).2.2 x5_1 p248 q248
       cases e248
       replace p248 := eq_true p248
       replace q248 := eq_true q248
       go_wp2
       go_loopg [7] k1 (fun kq v7 w' => ∃ (x3_2 : List Int) (x7_2 : Int), v7 = .int .i64 x7_2 ∧ Aside0 (spec_levels.l1 kq l0 x3_2 t245 x5_1 (rd t245 x5_1) x7_2 = some r) ∧ Aside0 (kq ≤ k1) ∧ Aside0 (Kd.R (Kd.int .i64) 3 w' w.heap.size (fun k_ => some k_ ≠ ((.slice (some ad248) t245.length co10) : Value).ownBlock) v243 x3_2) ∧ Aside0 (Kd.R (Kd.int .i64) 3 w' w.heap.size (fun k_ => some k_ ≠ (v243 : Value).ownBlock) (.slice (some ad248) t245.length co10) t245) ∧ Aside0 (Below w.heap.size w w'))
       case atStart => exact ⟨(x3_1), (0), (by first | rfl | (simp; done) | (simp [*]; done)), H', ⟨Nat.le_refl _⟩, ⟨rw_ HO_3.out⟩, ⟨rw_ HO_4.out⟩, ⟨blw_⟩⟩
       case round =>
        clear H'
        try clear c2
        try clear c2b0
        try clear c2b1
        try clear p2
        try clear q2
        try clear hx2
        try clear c3
        try clear c3b0
        try clear c3b1
        try clear c5
        try clear c8
        try clear c8b0
        try clear c9
        try clear c9b0
        try clear hx248_0
        try clear p2
        try clear p248
        try clear q248
        obtain ⟨x3_2, x7_2, rfl, HA, HK2, HO_3, HO_4, HB⟩ := hrel
        cases gk with
        | zero => exact absurd HA.out (by simp [spec_levels.l1])
        | succ k2 =>
         have H := HA.out
         clear HA
         simp only [spec_levels.l1] at H
         by_cases c11 : 0 ≤ (rd t245 x5_1)
         ·rw [if_pos c11] at H
          have c11b0 : decide (0 ≤ (rd t245 x5_1)) = true := decide_eq_true c11
          clear c11
          by_cases c12 : (rd t245 x5_1) < (l0.length : Int)
          ·rw [if_pos c12] at H
           have c12b0 : decide ((rd t245 x5_1) < (l0.length : Int)) = true := decide_eq_true c12
           clear c12
           by_cases c13 : x7_2 < (((rd_T29 l0 (rd t245 x5_1)).f1).length : Int)
           ·rw [if_pos c13] at H
            have c13b0 : decide (x7_2 < (((rd_T29 l0 (rd t245 x5_1)).f1).length : Int)) = true := decide_eq_true c13
            clear c13
            by_cases c14 : (rd t245 x5_1) < (x3_2.length : Int)
            ·rw [if_pos c14] at H
             have c14b0 : decide ((rd t245 x5_1) < (x3_2.length : Int)) = true := decide_eq_true c14
             clear c14
             by_cases c15 : 0 ≤ x7_2
             ·rw [if_pos c15] at H
              have c15b0 : decide (0 ≤ x7_2) = true := decide_eq_true c15
              clear c15
              by_cases c16 : 0 ≤ (rd ((rd_T29 l0 (rd t245 x5_1)).f1) x7_2)
              ·rw [if_pos c16] at H
               have c16b0 : decide (0 ≤ (rd ((rd_T29 l0 (rd t245 x5_1)).f1) x7_2)) = true := decide_eq_true c16
               clear c16
               by_cases c17 : (rd ((rd_T29 l0 (rd t245 x5_1)).f1) x7_2) < (x3_2.length : Int)
               ·rw [if_pos c17] at H
                have c17b0 : decide ((rd ((rd_T29 l0 (rd t245 x5_1)).f1) x7_2) < (x3_2.length : Int)) = true := decide_eq_true c17
                clear c17
                obtain ⟨ji18, hji18⟩ : ∃ j_ : Int, (mx (rd x3_2 (rd t245 x5_1)) (wrap64 ((rd x3_2 (rd ((rd_T29 l0 (rd t245 x5_1)).f1) x7_2)) + 1))) = j_ := ⟨_, rfl⟩
                replace H : (spec_levels.l1 k2 l0 (x3_2.set ((rd t245 x5_1) : Int).toNat (ji18)) t245 x5_1 (rd t245 x5_1) (wrap64 (x7_2 + 1))) = some r := by first | (rw [hji18] at H; exact H) | (simp only [hji18] at H ⊢; exact H)
                have hji18_ : (if (rd x3_2 (rd t245 x5_1)) < (wrap64 ((rd x3_2 (rd ((rd_T29 l0 (rd t245 x5_1)).f1) x7_2)) + 1)) then (wrap64 ((rd x3_2 (rd ((rd_T29 l0 (rd t245 x5_1)).f1) x7_2)) + 1)) else (rd x3_2 (rd t245 x5_1))) = ji18 := hji18
                obtain ⟨y254, hy254⟩ : ∃ y_ : List Int, y_ = (x3_2.set ((rd t245 x5_1) : Int).toNat (ji18)) := ⟨_, rfl⟩
                replace H : (spec_levels.l1 k2 l0 y254 t245 x5_1 (rd t245 x5_1) (wrap64 (x7_2 + 1))) = some r := by first | (rw [hy254]; with_reducible exact H) | (have H2_ := (Option.bind_some _ _).symm.trans H; rw [hy254]; with_reducible exact H2_) | (have H2_ := (Option.bind_some _ _).symm.trans H; with_reducible exact H2_) | with_reducible exact H | (rw [hy254]; exact H) | exact H
                have Ny254 := Aside0.mk hy254
                clear hy254
                have H' := Aside0.mk H
                clear H
                have p249 : 0 ≤ ((rd t245 x5_1) : Int) := of_decide_eq_true (by first | (with_reducible assumption) | assumption)
                have q249 : (rd t245 x5_1) < (l0.length : Int) := of_decide_eq_true (by first | (with_reducible assumption) | assumption)
                obtain ⟨ad249, A249_1, c249_1, e249, hx249_0, hx249_1, hx249_2, hx249_3, hl249_1, hi249_1⟩ := at_T29 HR0.out (rd t245 x5_1) p249 q249
                cases e249
                replace hx249_0 := (HB.out.cell (World.block_lt_of_cell? w _ hx249_0)).trans hx249_0
                replace hx249_1 := (HB.out.cell (World.block_lt_of_cell? w _ hx249_1)).trans hx249_1
                replace hx249_2 := (HB.out.cell (World.block_lt_of_cell? w _ hx249_2)).trans hx249_2
                replace hx249_3 := (HB.out.cell (World.block_lt_of_cell? w _ hx249_3)).trans hx249_3
                have HR249_1 := Aside0.mk hi249_1
                have HC249_1 := Aside0.mk hl249_1
                clear hi249_1 hl249_1
                replace p249 := eq_true p249
                replace q249 := eq_true q249
                try go_wp2
                have n0_ := Aside0.mk (Kd.R_drew HO_3.out)
                have n1_ := Aside0.mk (Kd.R_drew HO_4.out)
                have n2_ := Aside0.mk (below_drew1 HB.out)
                clear HO_3
                clear HO_4
                clear HB
                have HO_3 := n0_
                have HO_4 := n1_
                have HB := n2_
                clear n0_ n1_ n2_
                obtain ⟨Ao21, co21, eo21⟩ := Kd.R_slice HO_3.out
                (first | subst eo21 | (injection eo21 with f1_ f2_ f3_; have f4_ := f1_.symm; have f5_ := f3_.symm; clear f1_ f2_ f3_; subst f4_; subst f5_))
                have p250 : 0 ≤ ((rd t245 x5_1) : Int) := of_decide_eq_true (by first | (with_reducible assumption) | assumption)
                have q250 : (rd t245 x5_1) < (x3_2.length : Int) := of_decide_eq_true (by first | (with_reducible assumption) | assumption)
                obtain ⟨ad250, e250, hx250_0⟩ := Kd.at_int (Kd.R_reads' HO_3.out).2.2 (rd t245 x5_1) p250 q250
                cases e250
                replace p250 := eq_true p250
                replace q250 := eq_true q250
                have p251 : 0 ≤ ((rd t245 x5_1) : Int) := of_decide_eq_true (by first | (with_reducible assumption) | assumption)
                have q251 : (rd t245 x5_1) < (l0.length : Int) := of_decide_eq_true (by first | (with_reducible assumption) | assumption)
                obtain ⟨ad251, A251_1, c251_1, e251, hx251_0, hx251_1, hx251_2, hx251_3, hl251_1, hi251_1⟩ := at_T29 HR0.out (rd t245 x5_1) p251 q251
                have hw251_3 := hx251_3
                have hw251_2 := hx251_2
                have hw251_1 := hx251_1
                have hw251_0 := hx251_0
                obtain rfl : ad249 = ad251 := (by injection e251)
                replace hx251_0 := (HB.out.cell (World.block_lt_of_cell? w _ hx251_0)).trans hx251_0
                replace hx251_1 := (HB.out.cell (World.block_lt_of_cell? w _ hx251_1)).trans hx251_1
                replace hx251_2 := (HB.out.cell (World.block_lt_of_cell? w _ hx251_2)).trans hx251_2
                replace hx251_3 := (HB.out.cell (World.block_lt_of_cell? w _ hx251_3)).trans hx251_3
                have HR251_1 := Aside0.mk hi251_1
                have HC251_1 := Aside0.mk hl251_1
                clear hi251_1 hl251_1
                replace p251 := eq_true p251
                replace q251 := eq_true q251
                have p252 : 0 ≤ (x7_2 : Int) := of_decide_eq_true (by first | (with_reducible assumption) | assumption)
                have q252 : x7_2 < (((rd_T29 l0 (rd t245 x5_1)).f1).length : Int) := of_decide_eq_true (by first | (with_reducible assumption) | assumption)
                obtain ⟨ad252, e252, hx252_0⟩ := Kd.at_int HR251_1.out x7_2 p252 q252
                have hw252_0 := hx252_0
                cases e252
                replace hx252_0 := (HB.out.cell (World.block_lt_of_cell? w _ hx252_0)).trans hx252_0
                replace p252 := eq_true p252
                replace q252 := eq_true q252
                have p253 : 0 ≤ ((rd ((rd_T29 l0 (rd t245 x5_1)).f1) x7_2) : Int) := of_decide_eq_true (by first | (with_reducible assumption) | assumption)
                have q253 : (rd ((rd_T29 l0 (rd t245 x5_1)).f1) x7_2) < (x3_2.length : Int) := of_decide_eq_true (by first | (with_reducible assumption) | assumption)
                obtain ⟨ad253, e253, hx253_0⟩ := Kd.at_int (Kd.R_reads' HO_3.out).2.2 (rd ((rd_T29 l0 (rd t245 x5_1)).f1) x7_2) p253 q253
                obtain rfl : ad250 = ad253 := (by injection e253)
                replace p253 := eq_true p253
                replace q253 := eq_true q253
                have p19 : 0 ≤ ((rd t245 x5_1) : Int) := of_decide_eq_true (by first | (with_reducible assumption) | assumption)
                have q19 : ((rd t245 x5_1) : Int) < ((x3_2.length : Int) : Int) := of_decide_eq_true (by first | (with_reducible assumption) | assumption)
                obtain ⟨go19, co19, eo19, gb19, gl19, cl19, HG19⟩ := Kd.R_form HO_3.out (by omega)
                (first | cases eo19 | (injection eo19 with ea_ en_ ec_; (first | subst ea_ | (injection ea_ with ea_; subst ea_)); subst ec_; clear en_))
                have GB19 := Aside0.mk gb19
                have GG19 := Aside0.mk HG19
                clear gb19 gl19 HG19
                (first | simp only [add_plain] at hx250_0 | skip)
                (first | simp only [add_plain] at hx253_0 | skip)
                obtain ⟨hx19_0, hf19_0⟩ := Kd.R_celln 0 HO_3.out ((rd t245 x5_1) : Int) p19 q19
                replace p19 := eq_true p19
                replace q19 := eq_true q19
                have HP22 := Kd.R_putn HO_3.out ((rd t245 x5_1) : Int) ji18
                rw [← Ny254.out] at HP22
                have HQ22 := Aside0.mk HP22
                clear HP22
                refine start_ (n := 21) (S := fun w' => w'.cell? ⟨go19, ((rd t245 x5_1)).toNat, none⟩ = some (.int .i64 (rd x3_2 (rd t245 x5_1))) ∧ w'.cell? (ad249.add (((rd t245 x5_1)).toNat * 4)) = some (.int .i64 ((rd_T29 l0 (rd t245 x5_1)).f0)) ∧ w'.cell? ⟨(ad249.add (((rd t245 x5_1)).toNat * 4)).block, (ad249.add (((rd t245 x5_1)).toNat * 4)).off + 1, none⟩ = some (.slice (some ad252) ((rd_T29 l0 (rd t245 x5_1)).f1).length c251_1) ∧ w'.cell? ⟨(ad249.add (((rd t245 x5_1)).toNat * 4)).block, (ad249.add (((rd t245 x5_1)).toNat * 4)).off + 2, none⟩ = some (.int .i64 ((rd_T29 l0 (rd t245 x5_1)).f2)) ∧ w'.cell? ⟨(ad249.add (((rd t245 x5_1)).toNat * 4)).block, (ad249.add (((rd t245 x5_1)).toNat * 4)).off + 3, none⟩ = some (.int .i64 ((rd_T29 l0 (rd t245 x5_1)).f3)) ∧ w'.cell? (ad252.add (x7_2).toNat) = some (.int .i64 (rd ((rd_T29 l0 (rd t245 x5_1)).f1) x7_2)) ∧ w'.cell? ⟨go19, ((rd ((rd_T29 l0 (rd t245 x5_1)).f1) x7_2)).toNat, none⟩ = some (.int .i64 (rd x3_2 (rd ((rd_T29 l0 (rd t245 x5_1)).f1) x7_2)))) (ds := [20]) (bs 21 0) (by kernel_rfl) rfl (by kernel_rfl) ⟨hx250_0, ((HB.out.cell (World.block_lt_of_cell? w _ hw251_0)).trans hw251_0), ((HB.out.cell (World.block_lt_of_cell? w _ hw251_1)).trans hw251_1), ((HB.out.cell (World.block_lt_of_cell? w _ hw251_2)).trans hw251_2), ((HB.out.cell (World.block_lt_of_cell? w _ hw251_3)).trans hw251_3), ((HB.out.cell (World.block_lt_of_cell? w _ hw252_0)).trans hw252_0), hx253_0⟩ (fun hHeld => ?_); refine with_tabW spec_levels.tab10 spec_levels.bits10 (fun HT_ HW_ => ?_)
                generalize wr.drew = w20 at HO_3 HO_4 HB GG19 HQ22 HR251_1 hf19_0 hx19_0 hx250_0 hx251_0 hx251_1 hx251_2 hx251_3 hx252_0 hx253_0 hHeld ⊢
                refine pT_ HT_.out 0 33 (bs 21 1) ?_
                refine pT_ HT_.out 1 34 (bs 21 3) ?_
                refine pT_ HT_.out 2 35 (bs 21 7) ?_
                refine pT_ HT_.out 3 36 (bs 21 15) ?_
                refine pT_ HT_.out 4 37 (bs 21 31) ?_
                refine pT_ HT_.out 6 39 (bs 21 95) ?_
                refine pT_ HT_.out 7 40 (bs 21 223) ?_
                refine pT_ HT_.out 8 41 (bs 21 479) ?_
                refine pT_ HT_.out 9 42 (bs 21 991) ?_
                refine pT_ HT_.out 10 43 (bs 21 2015) ?_
                refine pT_ HT_.out 12 45 (bs 21 6111) ?_
                refine take_ (i := 5) (N := some 38) (v := ?_) (a' := ?_) (bs 21 6143) rfl rfl (take_ofW HT_.out HW_.out (by kernel_rfl)) (fun _ _ _ h => h) (Or.inl ⟨by rfl, ?_⟩) hHeld ?_ ?_
                rotate_left
                ·rintro w' ⟨s0, s1, s2, s3, s4, s5, s6⟩
                 go_simp
                 with_reducible rfl
                rotate_left
                ·simp only [Act.put, List.setIfInBounds_toArray, List.set_cons_zero, List.set_cons_succ, i64_w, i32_w]
                 rfl
                refine take_ (i := 11) (N := some 44) (v := ?_) (a' := ?_) (bs 21 8191) rfl rfl (take_ofW HT_.out HW_.out (by kernel_rfl)) (fun _ _ _ h => h) (Or.inl ⟨by rfl, ?_⟩) hHeld ?_ ?_
                rotate_left
                ·rintro w' ⟨s0, s1, s2, s3, s4, s5, s6⟩
                 go_simp
                 with_reducible rfl
                rotate_left
                ·simp only [Act.put, List.setIfInBounds_toArray, List.set_cons_zero, List.set_cons_succ, i64_w, i32_w]
                 rfl
                refine pT_ HT_.out 13 46 (bs 21 16383) ?_
                refine take_ (i := 14) (N := some 47) (v := ?_) (a' := ?_) (bs 21 32767) rfl rfl (take_ofW HT_.out HW_.out (by kernel_rfl)) (fun _ _ _ h => h) (Or.inl ⟨by rfl, ?_⟩) hHeld ?_ ?_
                rotate_left
                ·rintro w' ⟨s0, s1, s2, s3, s4, s5, s6⟩
                 go_simp
                 with_reducible rfl
                rotate_left
                ·simp only [Act.put, List.setIfInBounds_toArray, List.set_cons_zero, List.set_cons_succ, i64_w, i32_w]
                 rfl
                refine pT_ HT_.out 15 48 (bs 21 65535) ?_
                refine take_ (i := 16) (N := some 49) (v := ?_) (a' := ?_) (bs 21 131071) rfl rfl (take_ofW HT_.out HW_.out (by kernel_rfl)) (fun _ _ _ h => h) (Or.inl ⟨by rfl, ?_⟩) hHeld ?_ ?_
                rotate_left
                ·rintro w' ⟨s0, s1, s2, s3, s4, s5, s6⟩
                 go_simp
                 with_reducible rfl
                rotate_left
                ·simp only [Act.put, List.setIfInBounds_toArray, List.set_cons_zero, List.set_cons_succ, i64_w, i32_w]
                 rfl
                refine pT_ HT_.out 17 50 (bs 21 262143) ?_
                refine pT_ HT_.out 18 51 (bs 21 524287) ?_
                refine pT_ HT_.out 19 52 (bs 21 1048575) ?_
                refine last_ (i := 20) (N := none) (bs 21 2097151) rfl rfl (one_of HT_.out (by kernel_rfl)) (by decide) (fun K hK => ?_)
                refine skip_ (w1 := ?_) (by rfl) rfl ?_ ?_
                rotate_left
                ·go_simp
                 rfl
                refine hK.out _ _ ?_
                clear hK K
                refine done_ (done_of HT_.out (by kernel_rfl)) ?_
                try go_wp2
                go_roundg k2
                case measure => have := HK1.out; have := HK2.out; omega
                case rel => exact ⟨(y254), (wrap64 (x7_2 + 1)), (by first | rfl | (simp; done) | (simp [*]; done)), H', ⟨by have := HK1.out; have := HK2.out; omega⟩, ⟨rw_ HQ22.out⟩, ⟨by (with_reducible repeat (first | apply Kd.R_alloc | apply Kd.R_drewN | apply Kd.R_drew)); exact Kd.R_mono (Kd.R_far (p := ⟨go19, ((rd t245 x5_1) : Int).toNat, none⟩) (Kd.R_mono HO_4.out (fun k_ hk => (⟨hk, fun e_ => hk (by rw [e_]; rfl)⟩ : _ ∧ k_ ≠ go19))) (fun _ hk => hk.2) (.int .i64 ji18)) (fun _ hk => hk.1)⟩, ⟨by repeat (first | (with_reducible first | exact HB.out | apply below_alloc | apply pw_below_drewN | apply below_drew1 | refine below_set ?_ GB19.out) | exact HB.out)⟩⟩
               ·rw [if_neg c17] at H
                exact absurd H (by simp)
              ·rw [if_neg c16] at H
               exact absurd H (by simp)
             ·rw [if_neg c15] at H
              exact absurd H (by simp)
            ·rw [if_neg c14] at H
             exact absurd H (by simp)
           ·rw [if_neg c13] at H
            have c13b0 : decide (x7_2 < (((rd_T29 l0 (rd t245 x5_1)).f1).length : Int)) = false := decide_eq_false c13
            clear c13
            have H' := Aside0.mk H
            clear H
            have p249 : 0 ≤ ((rd t245 x5_1) : Int) := of_decide_eq_true (by first | (with_reducible assumption) | assumption)
            have q249 : (rd t245 x5_1) < (l0.length : Int) := of_decide_eq_true (by first | (with_reducible assumption) | assumption)
            obtain ⟨ad249, A249_1, c249_1, e249, hx249_0, hx249_1, hx249_2, hx249_3, hl249_1, hi249_1⟩ := at_T29 HR0.out (rd t245 x5_1) p249 q249
            cases e249
            replace hx249_0 := (HB.out.cell (World.block_lt_of_cell? w _ hx249_0)).trans hx249_0
            replace hx249_1 := (HB.out.cell (World.block_lt_of_cell? w _ hx249_1)).trans hx249_1
            replace hx249_2 := (HB.out.cell (World.block_lt_of_cell? w _ hx249_2)).trans hx249_2
            replace hx249_3 := (HB.out.cell (World.block_lt_of_cell? w _ hx249_3)).trans hx249_3
            have HR249_1 := Aside0.mk hi249_1
            have HC249_1 := Aside0.mk hl249_1
            clear hi249_1 hl249_1
            replace p249 := eq_true p249
            replace q249 := eq_true q249
            go_wp2
            go_roundg k2
            case measure => have := HK1.out; have := HK2.out; omega
            case rel => exact ⟨(x3_2), (wrap64 (x5_1 + 1)), (by first | rfl | (simp; done) | (simp [*]; done)), H', ⟨by have := HK1.out; have := HK2.out; omega⟩, ⟨rw_ HO_3.out⟩, ⟨rw_ HO_4.out⟩, ⟨blw_⟩⟩
          ·rw [if_neg c12] at H
           exact absurd H (by simp)
         ·rw [if_neg c11] at H
          exact absurd H (by simp)
      ·rw [if_neg c9] at H
       exact absurd H (by simp)
     ·rw [if_neg c8] at H
      have c8b0 : decide (x5_1 < (t245.length : Int)) = false := decide_eq_false c8
      clear c8
      obtain rfl := Option.some.inj H
      obtain ⟨Ao23, co23, eo23⟩ := Kd.R_slice HO_4.out
      subst eo23
      go_wp2
      go_ret
      exact ⟨_, by first | rfl | (simp [errW_none, errW_some] <;> rfl) | (simp [*, errW_none, errW_some] <;> rfl), by (with_reducible repeat (first | apply Kd.R_alloc | apply Kd.R_drewN | apply Kd.R_drew)); exact Kd.R_mono HO_3.out (fun _ hk => trivial), blw_⟩
  ·rw [if_neg c3] at H
   exact absurd H (by simp)
 ·rw [if_neg c2] at H
  exact absurd H (by simp)

end Go.Proofs.YtbodhggmhbiebaaDoor.G
