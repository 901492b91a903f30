-- SLIM
-- Written by hyb.py, a driver of this session round the print.py of the kit. Lean checks it.
import Derived.Test.YtflponipbdgkeaaWRepsOne
import Derived.Test.YtflponipbdgkeaaWTab
import Derived.Test.YtflponipbdgkeaaG0
import Derived.Test.YtflponipbdgkeaaG1
import Derived.Test.YtflponipbdgkeaaG2
import Derived.Test.YtflponipbdgkeaaG6
namespace Go.Proofs.Ytflponipbdgkeaa.G
open Go.RowKit Go.Proofs.YtflponipbdgkeaaW.PrintWords Go.Proofs.YtflponipbdgkeaaW.PrintLast Go.Proofs.YtflponipbdgkeaaW.PrintMore
attribute [local go_sem] max2_int min2_int max_two min_two max_three min_three max_four min_four   -- for this text's walks alone
set_option linter.unusedVariables false
set_option linter.unusedSimpArgs false

attribute [local go_sem high] eqA30
/-! ### spec_next: function 25 -/
def spec_next.l0 : Nat → List (S30) → Int → Int → Option (Int)
 | 0, _, _, _ => none
 | k + 1, x0, x3, x4 => if x4 < (x0.length : Int) then (if 0 ≤ x4 then (if ((rd_T30 x0 x4).f2) > 0 then (if x3 < 0 then (spec_next.l0 k x0 x4 (wrap64 (x4 + 1))) else (if 0 ≤ x3 then (if x3 < (x0.length : Int) then ((spec_poorer.f ((rd_T30 x0 x4).f0) ((rd_T30 x0 x4).f1) ((rd_T30 x0 x4).f2) ((rd_T30 x0 x3).f0) ((rd_T30 x0 x3).f1) ((rd_T30 x0 x3).f2)).bind fun t188 => (if t188 = true then (spec_next.l0 k x0 x4 (wrap64 (x4 + 1))) else (spec_next.l0 k x0 x3 (wrap64 (x4 + 1))))) else (none)) else (none))) else (spec_next.l0 k x0 x3 (wrap64 (x4 + 1)))) else (none)) else (some x3)
def spec_next.f (k : Nat) (l0 : List (S30)) : Option (Int) := spec_next.l0 k l0 (-1) 0
def spec_next.T5 : Bool × List (List Nat × List Nat) := (true, [([], []), ([], []), ([0, 1], [0, 1]), ([2], [2]), ([3], [3]), ([4], [4]), ([5], [5]), ([6], [6]), ([7, 6], [6, 7]), ([8, 6, 6], [6, 8]), ([9], [9]), ([9], [9]), ([10, 11, 9], [9, 10, 11]), ([12, 9], [9, 12]), ([9], [9]), ([9], [9]), ([14, 15, 9], [9, 14, 15]), ([16, 9], [9, 16]), ([13, 17, 9, 9], [9, 13, 17]), ([9, 18, 6], [6, 9, 18]), ([6, 19], [6, 19])])
def spec_next.B5 : List Nat := [0, 0, 3, 7, 15, 31, 63, 127, 255, 511, 1023, 1023, 4095, 8191, 1023, 1023, 50175, 115711, 262143, 524287, 1048575]
theorem spec_next.tab5 : rtab .any (opsOf Try.f25 5) = spec_next.T5 := by kernel_rfl
theorem spec_next.bits5 : waitsOk spec_next.T5.2 spec_next.B5 = true := by kernel_rfl
set_option maxHeartbeats 8000000 in
set_option maxRecDepth 100000 in
theorem spec_next.calls (k : Nat) (A0 : Option Addr) (c0 : Nat) (l0 : List (S30)) (r : Int) (w : World) (hr0 : Kd.C k30 w A0 l0.length l0) (hc0 : l0.length ≤ c0) (h : spec_next.f k l0 = some r) :
  Calls Try.prog 25 #[.slice A0 l0.length c0] w fun e w' => e = .returned (.int .i64 r) ∧ Below w.heap.size w w' := by
 have hu30 := Try.underlying30
 have HR0 := Aside0.mk hr0
 have HC0 := Aside0.mk hc0
 clear hr0 hc0
 have HB := Aside0.mk (Below.refl w.heap.size w)
 have H : (spec_next.l0 k l0 (-1) 0) = some r := h
 clear h
 have H' := Aside0.mk H
 clear H
 go_enter Try.func25, Try.ntmps25
 go_wp2
 go_loopg [3, 4] k (fun kq v3 v4 w' => ∃ (x3_1 : Int) (x4_1 : Int), v3 = .int .i64 x3_1 ∧ v4 = .int .i64 x4_1 ∧ Aside0 (spec_next.l0 kq l0 x3_1 x4_1 = some r) ∧ Aside0 (kq ≤ k) ∧ Aside0 (Below w.heap.size w w'))
 case atStart => exact ⟨((-1)), (0), (by first | rfl | (simp; done) | (simp [*]; done)), (by first | rfl | (simp; done) | (simp [*]; done)), H', ⟨Nat.le_refl _⟩, ⟨blw_⟩⟩
 case round =>
  clear H'
  obtain ⟨x3_1, x4_1, rfl, rfl, HA, HK1, HB⟩ := hrel
  cases gk with
  | zero => exact absurd HA.out (by simp [spec_next.l0])
  | succ k1 =>
   have H := HA.out
   clear HA
   simp only [spec_next.l0] at H
   by_cases c2 : x4_1 < (l0.length : Int)
   ·rw [if_pos c2] at H
    have c2b0 : decide (x4_1 < (l0.length : Int)) = true := decide_eq_true c2
    clear c2
    by_cases c3 : 0 ≤ x4_1
    ·rw [if_pos c3] at H
     have c3b0 : decide (0 ≤ x4_1) = true := decide_eq_true c3
     clear c3
     by_cases c4 : ((rd_T30 l0 x4_1).f2) > 0
     ·rw [if_pos c4] at H
      have c4b0 : decide (0 < ((rd_T30 l0 x4_1).f2)) = true := decide_eq_true c4
      clear c4
      by_cases c5 : x3_1 < 0
      ·rw [if_pos c5] at H
       have c5b0 : decide (x3_1 < 0) = true := decide_eq_true c5
       clear c5
       have H' := Aside0.mk H
       clear H
       try go_wp2
       have n0_ := Aside0.mk (below_drew1 HB.out)
       clear HB
       have HB := n0_
       clear n0_
       have p185 : 0 ≤ (x4_1 : Int) := of_decide_eq_true (by first | (with_reducible assumption) | assumption)
       have q185 : x4_1 < (l0.length : Int) := of_decide_eq_true (by first | (with_reducible assumption) | assumption)
       obtain ⟨ad185, e185, hx185_0, hx185_1, hx185_2⟩ := at_T30 HR0.out x4_1 p185 q185
       have hw185_2 := hx185_2
       have hw185_1 := hx185_1
       have hw185_0 := hx185_0
       cases e185
       replace hx185_0 := (HB.out.cell (World.block_lt_of_cell? w _ hx185_0)).trans hx185_0
       replace hx185_1 := (HB.out.cell (World.block_lt_of_cell? w _ hx185_1)).trans hx185_1
       replace hx185_2 := (HB.out.cell (World.block_lt_of_cell? w _ hx185_2)).trans hx185_2
       replace p185 := eq_true p185
       replace q185 := eq_true q185
       refine start_ (n := 21) (S := fun w' => w'.cell? (ad185.add ((x4_1).toNat * 3)) = some (.int .i64 ((rd_T30 l0 x4_1).f0)) ∧ w'.cell? ⟨(ad185.add ((x4_1).toNat * 3)).block, (ad185.add ((x4_1).toNat * 3)).off + 1, none⟩ = some (.int .i64 ((rd_T30 l0 x4_1).f1)) ∧ w'.cell? ⟨(ad185.add ((x4_1).toNat * 3)).block, (ad185.add ((x4_1).toNat * 3)).off + 2, none⟩ = some (.int .i64 ((rd_T30 l0 x4_1).f2))) (ds := []) (bs 21 0) (by kernel_rfl) rfl (by kernel_rfl) ⟨((HB.out.cell (World.block_lt_of_cell? w _ hw185_0)).trans hw185_0), ((HB.out.cell (World.block_lt_of_cell? w _ hw185_1)).trans hw185_1), ((HB.out.cell (World.block_lt_of_cell? w _ hw185_2)).trans hw185_2)⟩ (fun hHeld => ?_); refine with_tabW spec_next.tab5 spec_next.bits5 (fun HT_ HW_ => ?_)
       generalize wr.drew = w6 at HB hx185_0 hx185_1 hx185_2 hHeld ⊢
       refine pT_ HT_.out 0 11 (bs 21 1) ?_
       refine pT_ HT_.out 1 12 (bs 21 3) ?_
       refine pT_ HT_.out 2 13 (bs 21 7) ?_
       refine pT_ HT_.out 3 14 (bs 21 15) ?_
       refine take_ (i := 4) (N := some 15) (v := ?_) (a' := ?_) (bs 21 31) rfl rfl (take_ofW HT_.out HW_.out (by kernel_rfl)) (fun _ _ _ h => h) (Or.inl ⟨by rfl, ?_⟩) hHeld ?_ ?_
       rotate_left
       ·rintro w' ⟨s0, s1, s2⟩
        go_simp
        with_reducible rfl
       rotate_left
       ·simp only [Act.put, List.setIfInBounds_toArray, List.set_cons_zero, List.set_cons_succ, i64_w, i32_w]
        rfl
       refine pT_ HT_.out 5 16 (bs 21 63) ?_
       refine pT_ HT_.out 6 17 (bs 21 127) ?_
       refine pT_ HT_.out 7 18 (bs 21 255) ?_
       refine pT_ HT_.out 8 19 (bs 21 511) ?_
       refine pT_ HT_.out 9 20 (bs 21 1023) ?_
       refine pU_ HT_.out 10 21 (bs 21 2047) ?_
       refine pU_ HT_.out 11 22 (bs 21 4095) ?_
       refine pU_ HT_.out 12 23 (bs 21 8191) ?_
       refine pU_ HT_.out 13 24 (bs 21 16383) ?_
       refine pU_ HT_.out 14 25 (bs 21 32767) ?_
       refine pU_ HT_.out 15 26 (bs 21 65535) ?_
       refine pU_ HT_.out 16 27 (bs 21 131071) ?_
       refine pU_ HT_.out 17 28 (bs 21 262143) ?_
       refine pU_ HT_.out 18 29 (bs 21 524287) ?_
       refine pT_ HT_.out 19 30 (bs 21 1048575) ?_
       refine pT_ HT_.out 20 31 (bs 21 2097151) ?_
       refine done_ (done_of HT_.out (by kernel_rfl)) ?_
       try go_wp2
       go_roundg k1
       case measure => have := HK1.out; omega
       case rel => exact ⟨(x4_1), (wrap64 (x4_1 + 1)), (by first | rfl | (simp; done) | (simp [*]; done)), (by first | rfl | (simp; done) | (simp [*]; done)), H', ⟨by have := HK1.out; omega⟩, ⟨blw_⟩⟩
      ·rw [if_neg c5] at H
       have c5b0 : decide (x3_1 < 0) = false := decide_eq_false c5
       clear c5
       by_cases c7 : 0 ≤ x3_1
       ·rw [if_pos c7] at H
        have c7b0 : decide (0 ≤ x3_1) = true := decide_eq_true c7
        clear c7
        by_cases c8 : x3_1 < (l0.length : Int)
        ·rw [if_pos c8] at H
         have c8b0 : decide (x3_1 < (l0.length : Int)) = true := decide_eq_true c8
         clear c8
         replace H := Option.bind_eq_some_iff.mp H
         obtain ⟨t188, A90, H⟩ := H
         replace H : (if t188 = true then (spec_next.l0 k1 l0 x4_1 (wrap64 (x4_1 + 1))) else (spec_next.l0 k1 l0 x3_1 (wrap64 (x4_1 + 1)))) = some r := H
         have A9 := Aside0.mk A90
         clear A90
         by_cases c10 : t188 = true
         ·subst c10
          have H1 : (spec_next.l0 k1 l0 x4_1 (wrap64 (x4_1 + 1))) = some r := by rw [if_pos rfl] at H; exact H
          clear H
          have H := H1
          clear H1
          have H' := Aside0.mk H
          clear H
          try go_wp2
          have n0_ := Aside0.mk (below_drew1 HB.out)
          clear HB
          have HB := n0_
          clear n0_
          have p185 : 0 ≤ (x4_1 : Int) := of_decide_eq_true (by first | (with_reducible assumption) | assumption)
          have q185 : x4_1 < (l0.length : Int) := of_decide_eq_true (by first | (with_reducible assumption) | assumption)
          obtain ⟨ad185, e185, hx185_0, hx185_1, hx185_2⟩ := at_T30 HR0.out x4_1 p185 q185
          have hw185_2 := hx185_2
          have hw185_1 := hx185_1
          have hw185_0 := hx185_0
          cases e185
          replace hx185_0 := (HB.out.cell (World.block_lt_of_cell? w _ hx185_0)).trans hx185_0
          replace hx185_1 := (HB.out.cell (World.block_lt_of_cell? w _ hx185_1)).trans hx185_1
          replace hx185_2 := (HB.out.cell (World.block_lt_of_cell? w _ hx185_2)).trans hx185_2
          replace p185 := eq_true p185
          replace q185 := eq_true q185
          have p186 : 0 ≤ (x4_1 : Int) := of_decide_eq_true (by first | (with_reducible assumption) | assumption)
          have q186 : x4_1 < (l0.length : Int) := of_decide_eq_true (by first | (with_reducible assumption) | assumption)
          obtain ⟨ad186, e186, hx186_0, hx186_1, hx186_2⟩ := at_T30 HR0.out x4_1 p186 q186
          have hw186_2 := hx186_2
          have hw186_1 := hx186_1
          have hw186_0 := hx186_0
          obtain rfl : ad185 = ad186 := (by injection e186)
          replace hx186_0 := (HB.out.cell (World.block_lt_of_cell? w _ hx186_0)).trans hx186_0
          replace hx186_1 := (HB.out.cell (World.block_lt_of_cell? w _ hx186_1)).trans hx186_1
          replace hx186_2 := (HB.out.cell (World.block_lt_of_cell? w _ hx186_2)).trans hx186_2
          replace p186 := eq_true p186
          replace q186 := eq_true q186
          have p187 : 0 ≤ (x3_1 : Int) := of_decide_eq_true (by first | (with_reducible assumption) | assumption)
          have q187 : x3_1 < (l0.length : Int) := of_decide_eq_true (by first | (with_reducible assumption) | assumption)
          obtain ⟨ad187, e187, hx187_0, hx187_1, hx187_2⟩ := at_T30 HR0.out x3_1 p187 q187
          have hw187_2 := hx187_2
          have hw187_1 := hx187_1
          have hw187_0 := hx187_0
          obtain rfl : ad185 = ad187 := (by injection e187)
          replace hx187_0 := (HB.out.cell (World.block_lt_of_cell? w _ hx187_0)).trans hx187_0
          replace hx187_1 := (HB.out.cell (World.block_lt_of_cell? w _ hx187_1)).trans hx187_1
          replace hx187_2 := (HB.out.cell (World.block_lt_of_cell? w _ hx187_2)).trans hx187_2
          replace p187 := eq_true p187
          replace q187 := eq_true q187
          refine start_ (n := 21) (S := fun w' => w'.cell? (ad185.add ((x4_1).toNat * 3)) = some (.int .i64 ((rd_T30 l0 x4_1).f0)) ∧ w'.cell? ⟨(ad185.add ((x4_1).toNat * 3)).block, (ad185.add ((x4_1).toNat * 3)).off + 1, none⟩ = some (.int .i64 ((rd_T30 l0 x4_1).f1)) ∧ w'.cell? ⟨(ad185.add ((x4_1).toNat * 3)).block, (ad185.add ((x4_1).toNat * 3)).off + 2, none⟩ = some (.int .i64 ((rd_T30 l0 x4_1).f2)) ∧ w'.cell? (ad185.add ((x4_1).toNat * 3)) = some (.int .i64 ((rd_T30 l0 x4_1).f0)) ∧ w'.cell? ⟨(ad185.add ((x4_1).toNat * 3)).block, (ad185.add ((x4_1).toNat * 3)).off + 1, none⟩ = some (.int .i64 ((rd_T30 l0 x4_1).f1)) ∧ w'.cell? ⟨(ad185.add ((x4_1).toNat * 3)).block, (ad185.add ((x4_1).toNat * 3)).off + 2, none⟩ = some (.int .i64 ((rd_T30 l0 x4_1).f2)) ∧ w'.cell? (ad185.add ((x3_1).toNat * 3)) = some (.int .i64 ((rd_T30 l0 x3_1).f0)) ∧ w'.cell? ⟨(ad185.add ((x3_1).toNat * 3)).block, (ad185.add ((x3_1).toNat * 3)).off + 1, none⟩ = some (.int .i64 ((rd_T30 l0 x3_1).f1)) ∧ w'.cell? ⟨(ad185.add ((x3_1).toNat * 3)).block, (ad185.add ((x3_1).toNat * 3)).off + 2, none⟩ = some (.int .i64 ((rd_T30 l0 x3_1).f2))) (ds := []) (bs 21 0) (by kernel_rfl) rfl (by kernel_rfl) ⟨((HB.out.cell (World.block_lt_of_cell? w _ hw185_0)).trans hw185_0), ((HB.out.cell (World.block_lt_of_cell? w _ hw185_1)).trans hw185_1), ((HB.out.cell (World.block_lt_of_cell? w _ hw185_2)).trans hw185_2), ((HB.out.cell (World.block_lt_of_cell? w _ hw186_0)).trans hw186_0), ((HB.out.cell (World.block_lt_of_cell? w _ hw186_1)).trans hw186_1), ((HB.out.cell (World.block_lt_of_cell? w _ hw186_2)).trans hw186_2), ((HB.out.cell (World.block_lt_of_cell? w _ hw187_0)).trans hw187_0), ((HB.out.cell (World.block_lt_of_cell? w _ hw187_1)).trans hw187_1), ((HB.out.cell (World.block_lt_of_cell? w _ hw187_2)).trans hw187_2)⟩ (fun hHeld => ?_); refine with_tabW spec_next.tab5 spec_next.bits5 (fun HT_ HW_ => ?_)
          generalize wr.drew = w11 at HB hx185_0 hx185_1 hx185_2 hx186_0 hx186_1 hx186_2 hx187_0 hx187_1 hx187_2 hHeld ⊢
          refine pT_ HT_.out 0 11 (bs 21 1) ?_
          refine pT_ HT_.out 1 12 (bs 21 3) ?_
          refine pT_ HT_.out 2 13 (bs 21 7) ?_
          refine pT_ HT_.out 3 14 (bs 21 15) ?_
          refine take_ (i := 4) (N := some 15) (v := ?_) (a' := ?_) (bs 21 31) rfl rfl (take_ofW HT_.out HW_.out (by kernel_rfl)) (fun _ _ _ h => h) (Or.inl ⟨by rfl, ?_⟩) hHeld ?_ ?_
          rotate_left
          ·rintro w' ⟨s0, s1, s2, s3, s4, s5, s6, s7, s8⟩
           go_simp
           with_reducible rfl
          rotate_left
          ·simp only [Act.put, List.setIfInBounds_toArray, List.set_cons_zero, List.set_cons_succ, i64_w, i32_w]
           rfl
          refine pT_ HT_.out 5 16 (bs 21 63) ?_
          refine pT_ HT_.out 6 17 (bs 21 127) ?_
          refine pT_ HT_.out 7 18 (bs 21 255) ?_
          refine pT_ HT_.out 8 19 (bs 21 511) ?_
          refine pT_ HT_.out 9 20 (bs 21 1023) ?_
          refine pT_ HT_.out 10 21 (bs 21 2047) ?_
          refine pT_ HT_.out 11 22 (bs 21 4095) ?_
          refine pT_ HT_.out 12 23 (bs 21 8191) ?_
          refine pT_ HT_.out 14 25 (bs 21 24575) ?_
          refine pT_ HT_.out 15 26 (bs 21 57343) ?_
          refine pT_ HT_.out 16 27 (bs 21 122879) ?_
          refine take_ (i := 13) (N := some 24) (v := ?_) (a' := ?_) (bs 21 131071) rfl rfl (take_ofW HT_.out HW_.out (by kernel_rfl)) (fun _ _ _ h => h) (Or.inl ⟨by rfl, ?_⟩) hHeld ?_ ?_
          rotate_left
          ·rintro w' ⟨s0, s1, s2, s3, s4, s5, s6, s7, s8⟩
           go_simp
           with_reducible rfl
          rotate_left
          ·simp only [Act.put, List.setIfInBounds_toArray, List.set_cons_zero, List.set_cons_succ, i64_w, i32_w]
           rfl
          refine take_ (i := 17) (N := some 28) (v := ?_) (a' := ?_) (bs 21 262143) rfl rfl (take_ofW HT_.out HW_.out (by kernel_rfl)) (fun _ _ _ h => h) (Or.inl ⟨by rfl, ?_⟩) hHeld ?_ ?_
          rotate_left
          ·rintro w' ⟨s0, s1, s2, s3, s4, s5, s6, s7, s8⟩
           go_simp
           with_reducible rfl
          rotate_left
          ·simp only [Act.put, List.setIfInBounds_toArray, List.set_cons_zero, List.set_cons_succ, i64_w, i32_w]
           rfl
          refine one_ (i := 18) (N := some 29) (bs 21 524287) rfl rfl (one_of HT_.out (by kernel_rfl)) (by decide) (fun K hK => ?_)
          refine goes_ Try.func38 (by kernel_rfl) rfl #[.agg #[.int .i64 ((rd_T30 l0 x4_1).f0), .int .i64 ((rd_T30 l0 x4_1).f1), .int .i64 ((rd_T30 l0 x4_1).f2)], .agg #[.int .i64 ((rd_T30 l0 x3_1).f0), .int .i64 ((rd_T30 l0 x3_1).f1), .int .i64 ((rd_T30 l0 x3_1).f2)]] (by rfl) rfl rfl (by (try simp only [List.map_toArray, List.map_cons, List.map_nil]); first | done | rfl | (simp only [List.length_drop, List.length_take]; rfl)) ?_
          with_reducible refine (spec_poorer.calls ((rd_T30 l0 x4_1).f0) ((rd_T30 l0 x4_1).f1) ((rd_T30 l0 x4_1).f2) ((rd_T30 l0 x3_1).f0) ((rd_T30 l0 x3_1).f1) ((rd_T30 l0 x3_1).f2) true _ A9.out).mono ?_
          rintro e w12 ⟨rfl, hb⟩
          refine ⟨_, rfl, ?_⟩
          have n0_ := Aside0.mk (below_step blw_ hb)
          clear HB
          have HB := n0_
          clear n0_
          (try clear hb)
          (try clear hb2)
          (try clear hk)
          (try clear hi)
          refine hK.out _ _ ⟨((HB.out.cell (World.block_lt_of_cell? w _ hw185_0)).trans hw185_0), ((HB.out.cell (World.block_lt_of_cell? w _ hw185_1)).trans hw185_1), ((HB.out.cell (World.block_lt_of_cell? w _ hw185_2)).trans hw185_2), ((HB.out.cell (World.block_lt_of_cell? w _ hw186_0)).trans hw186_0), ((HB.out.cell (World.block_lt_of_cell? w _ hw186_1)).trans hw186_1), ((HB.out.cell (World.block_lt_of_cell? w _ hw186_2)).trans hw186_2), ((HB.out.cell (World.block_lt_of_cell? w _ hw187_0)).trans hw187_0), ((HB.out.cell (World.block_lt_of_cell? w _ hw187_1)).trans hw187_1), ((HB.out.cell (World.block_lt_of_cell? w _ hw187_2)).trans hw187_2)⟩ (fun hHeld => ?_)
          clear hK K
          refine norm_ (a' := ?_) ?_ ?_
          rotate_left
          ·show Act.put _ (some 29) _ = _
           simp only [Act.put, List.setIfInBounds_toArray, List.set_cons_zero, List.set_cons_succ, i64_w, i32_w]
           rfl
          refine pT_ HT_.out 19 30 (bs 21 1048575) ?_
          refine pT_ HT_.out 20 31 (bs 21 2097151) ?_
          refine done_ (done_of HT_.out (by kernel_rfl)) ?_
          try go_wp2
          go_roundg k1
          case measure => have := HK1.out; omega
          case rel => exact ⟨(x4_1), (wrap64 (x4_1 + 1)), (by first | rfl | (simp; done) | (simp [*]; done)), (by first | rfl | (simp; done) | (simp [*]; done)), H', ⟨by have := HK1.out; omega⟩, ⟨blw_⟩⟩
         ·replace c10 := Bool.eq_false_iff.mpr c10
          subst c10
          have H1 : (spec_next.l0 k1 l0 x3_1 (wrap64 (x4_1 + 1))) = some r := by rw [if_neg (show ¬ (false = true) by decide)] at H; exact H
          clear H
          have H := H1
          clear H1
          have H' := Aside0.mk H
          clear H
          try go_wp2
          have n0_ := Aside0.mk (below_drew1 HB.out)
          clear HB
          have HB := n0_
          clear n0_
          have p185 : 0 ≤ (x4_1 : Int) := of_decide_eq_true (by first | (with_reducible assumption) | assumption)
          have q185 : x4_1 < (l0.length : Int) := of_decide_eq_true (by first | (with_reducible assumption) | assumption)
          obtain ⟨ad185, e185, hx185_0, hx185_1, hx185_2⟩ := at_T30 HR0.out x4_1 p185 q185
          have hw185_2 := hx185_2
          have hw185_1 := hx185_1
          have hw185_0 := hx185_0
          cases e185
          replace hx185_0 := (HB.out.cell (World.block_lt_of_cell? w _ hx185_0)).trans hx185_0
          replace hx185_1 := (HB.out.cell (World.block_lt_of_cell? w _ hx185_1)).trans hx185_1
          replace hx185_2 := (HB.out.cell (World.block_lt_of_cell? w _ hx185_2)).trans hx185_2
          replace p185 := eq_true p185
          replace q185 := eq_true q185
          have p186 : 0 ≤ (x4_1 : Int) := of_decide_eq_true (by first | (with_reducible assumption) | assumption)
          have q186 : x4_1 < (l0.length : Int) := of_decide_eq_true (by first | (with_reducible assumption) | assumption)
          obtain ⟨ad186, e186, hx186_0, hx186_1, hx186_2⟩ := at_T30 HR0.out x4_1 p186 q186
          have hw186_2 := hx186_2
          have hw186_1 := hx186_1
          have hw186_0 := hx186_0
          obtain rfl : ad185 = ad186 := (by injection e186)
          replace hx186_0 := (HB.out.cell (World.block_lt_of_cell? w _ hx186_0)).trans hx186_0
          replace hx186_1 := (HB.out.cell (World.block_lt_of_cell? w _ hx186_1)).trans hx186_1
          replace hx186_2 := (HB.out.cell (World.block_lt_of_cell? w _ hx186_2)).trans hx186_2
          replace p186 := eq_true p186
          replace q186 := eq_true q186
          have p187 : 0 ≤ (x3_1 : Int) := of_decide_eq_true (by first | (with_reducible assumption) | assumption)
          have q187 : x3_1 < (l0.length : Int) := of_decide_eq_true (by first | (with_reducible assumption) | assumption)
          obtain ⟨ad187, e187, hx187_0, hx187_1, hx187_2⟩ := at_T30 HR0.out x3_1 p187 q187
          have hw187_2 := hx187_2
          have hw187_1 := hx187_1
          have hw187_0 := hx187_0
          obtain rfl : ad185 = ad187 := (by injection e187)
          replace hx187_0 := (HB.out.cell (World.block_lt_of_cell? w _ hx187_0)).trans hx187_0
          replace hx187_1 := (HB.out.cell (World.block_lt_of_cell? w _ hx187_1)).trans hx187_1
          replace hx187_2 := (HB.out.cell (World.block_lt_of_cell? w _ hx187_2)).trans hx187_2
          replace p187 := eq_true p187
          replace q187 := eq_true q187
          refine start_ (n := 21) (S := fun w' => w'.cell? (ad185.add ((x4_1).toNat * 3)) = some (.int .i64 ((rd_T30 l0 x4_1).f0)) ∧ w'.cell? ⟨(ad185.add ((x4_1).toNat * 3)).block, (ad185.add ((x4_1).toNat * 3)).off + 1, none⟩ = some (.int .i64 ((rd_T30 l0 x4_1).f1)) ∧ w'.cell? ⟨(ad185.add ((x4_1).toNat * 3)).block, (ad185.add ((x4_1).toNat * 3)).off + 2, none⟩ = some (.int .i64 ((rd_T30 l0 x4_1).f2)) ∧ w'.cell? (ad185.add ((x4_1).toNat * 3)) = some (.int .i64 ((rd_T30 l0 x4_1).f0)) ∧ w'.cell? ⟨(ad185.add ((x4_1).toNat * 3)).block, (ad185.add ((x4_1).toNat * 3)).off + 1, none⟩ = some (.int .i64 ((rd_T30 l0 x4_1).f1)) ∧ w'.cell? ⟨(ad185.add ((x4_1).toNat * 3)).block, (ad185.add ((x4_1).toNat * 3)).off + 2, none⟩ = some (.int .i64 ((rd_T30 l0 x4_1).f2)) ∧ w'.cell? (ad185.add ((x3_1).toNat * 3)) = some (.int .i64 ((rd_T30 l0 x3_1).f0)) ∧ w'.cell? ⟨(ad185.add ((x3_1).toNat * 3)).block, (ad185.add ((x3_1).toNat * 3)).off + 1, none⟩ = some (.int .i64 ((rd_T30 l0 x3_1).f1)) ∧ w'.cell? ⟨(ad185.add ((x3_1).toNat * 3)).block, (ad185.add ((x3_1).toNat * 3)).off + 2, none⟩ = some (.int .i64 ((rd_T30 l0 x3_1).f2))) (ds := []) (bs 21 0) (by kernel_rfl) rfl (by kernel_rfl) ⟨((HB.out.cell (World.block_lt_of_cell? w _ hw185_0)).trans hw185_0), ((HB.out.cell (World.block_lt_of_cell? w _ hw185_1)).trans hw185_1), ((HB.out.cell (World.block_lt_of_cell? w _ hw185_2)).trans hw185_2), ((HB.out.cell (World.block_lt_of_cell? w _ hw186_0)).trans hw186_0), ((HB.out.cell (World.block_lt_of_cell? w _ hw186_1)).trans hw186_1), ((HB.out.cell (World.block_lt_of_cell? w _ hw186_2)).trans hw186_2), ((HB.out.cell (World.block_lt_of_cell? w _ hw187_0)).trans hw187_0), ((HB.out.cell (World.block_lt_of_cell? w _ hw187_1)).trans hw187_1), ((HB.out.cell (World.block_lt_of_cell? w _ hw187_2)).trans hw187_2)⟩ (fun hHeld => ?_); refine with_tabW spec_next.tab5 spec_next.bits5 (fun HT_ HW_ => ?_)
          generalize wr.drew = w13 at HB hx185_0 hx185_1 hx185_2 hx186_0 hx186_1 hx186_2 hx187_0 hx187_1 hx187_2 hHeld ⊢
          refine pT_ HT_.out 0 11 (bs 21 1) ?_
          refine pT_ HT_.out 1 12 (bs 21 3) ?_
          refine pT_ HT_.out 2 13 (bs 21 7) ?_
          refine pT_ HT_.out 3 14 (bs 21 15) ?_
          refine take_ (i := 4) (N := some 15) (v := ?_) (a' := ?_) (bs 21 31) rfl rfl (take_ofW HT_.out HW_.out (by kernel_rfl)) (fun _ _ _ h => h) (Or.inl ⟨by rfl, ?_⟩) hHeld ?_ ?_
          rotate_left
          ·rintro w' ⟨s0, s1, s2, s3, s4, s5, s6, s7, s8⟩
           go_simp
           with_reducible rfl
          rotate_left
          ·simp only [Act.put, List.setIfInBounds_toArray, List.set_cons_zero, List.set_cons_succ, i64_w, i32_w]
           rfl
          refine pT_ HT_.out 5 16 (bs 21 63) ?_
          refine pT_ HT_.out 6 17 (bs 21 127) ?_
          refine pT_ HT_.out 7 18 (bs 21 255) ?_
          refine pT_ HT_.out 8 19 (bs 21 511) ?_
          refine pT_ HT_.out 9 20 (bs 21 1023) ?_
          refine pT_ HT_.out 10 21 (bs 21 2047) ?_
          refine pT_ HT_.out 11 22 (bs 21 4095) ?_
          refine pT_ HT_.out 12 23 (bs 21 8191) ?_
          refine pT_ HT_.out 14 25 (bs 21 24575) ?_
          refine pT_ HT_.out 15 26 (bs 21 57343) ?_
          refine pT_ HT_.out 16 27 (bs 21 122879) ?_
          refine take_ (i := 13) (N := some 24) (v := ?_) (a' := ?_) (bs 21 131071) rfl rfl (take_ofW HT_.out HW_.out (by kernel_rfl)) (fun _ _ _ h => h) (Or.inl ⟨by rfl, ?_⟩) hHeld ?_ ?_
          rotate_left
          ·rintro w' ⟨s0, s1, s2, s3, s4, s5, s6, s7, s8⟩
           go_simp
           with_reducible rfl
          rotate_left
          ·simp only [Act.put, List.setIfInBounds_toArray, List.set_cons_zero, List.set_cons_succ, i64_w, i32_w]
           rfl
          refine take_ (i := 17) (N := some 28) (v := ?_) (a' := ?_) (bs 21 262143) rfl rfl (take_ofW HT_.out HW_.out (by kernel_rfl)) (fun _ _ _ h => h) (Or.inl ⟨by rfl, ?_⟩) hHeld ?_ ?_
          rotate_left
          ·rintro w' ⟨s0, s1, s2, s3, s4, s5, s6, s7, s8⟩
           go_simp
           with_reducible rfl
          rotate_left
          ·simp only [Act.put, List.setIfInBounds_toArray, List.set_cons_zero, List.set_cons_succ, i64_w, i32_w]
           rfl
          refine one_ (i := 18) (N := some 29) (bs 21 524287) rfl rfl (one_of HT_.out (by kernel_rfl)) (by decide) (fun K hK => ?_)
          refine goes_ Try.func38 (by kernel_rfl) rfl #[.agg #[.int .i64 ((rd_T30 l0 x4_1).f0), .int .i64 ((rd_T30 l0 x4_1).f1), .int .i64 ((rd_T30 l0 x4_1).f2)], .agg #[.int .i64 ((rd_T30 l0 x3_1).f0), .int .i64 ((rd_T30 l0 x3_1).f1), .int .i64 ((rd_T30 l0 x3_1).f2)]] (by rfl) rfl rfl (by (try simp only [List.map_toArray, List.map_cons, List.map_nil]); first | done | rfl | (simp only [List.length_drop, List.length_take]; rfl)) ?_
          with_reducible refine (spec_poorer.calls ((rd_T30 l0 x4_1).f0) ((rd_T30 l0 x4_1).f1) ((rd_T30 l0 x4_1).f2) ((rd_T30 l0 x3_1).f0) ((rd_T30 l0 x3_1).f1) ((rd_T30 l0 x3_1).f2) false _ A9.out).mono ?_
          rintro e w14 ⟨rfl, hb⟩
          refine ⟨_, rfl, ?_⟩
          have n0_ := Aside0.mk (below_step blw_ hb)
          clear HB
          have HB := n0_
          clear n0_
          (try clear hb)
          (try clear hb2)
          (try clear hk)
          (try clear hi)
          refine hK.out _ _ ⟨((HB.out.cell (World.block_lt_of_cell? w _ hw185_0)).trans hw185_0), ((HB.out.cell (World.block_lt_of_cell? w _ hw185_1)).trans hw185_1), ((HB.out.cell (World.block_lt_of_cell? w _ hw185_2)).trans hw185_2), ((HB.out.cell (World.block_lt_of_cell? w _ hw186_0)).trans hw186_0), ((HB.out.cell (World.block_lt_of_cell? w _ hw186_1)).trans hw186_1), ((HB.out.cell (World.block_lt_of_cell? w _ hw186_2)).trans hw186_2), ((HB.out.cell (World.block_lt_of_cell? w _ hw187_0)).trans hw187_0), ((HB.out.cell (World.block_lt_of_cell? w _ hw187_1)).trans hw187_1), ((HB.out.cell (World.block_lt_of_cell? w _ hw187_2)).trans hw187_2)⟩ (fun hHeld => ?_)
          clear hK K
          refine norm_ (a' := ?_) ?_ ?_
          rotate_left
          ·show Act.put _ (some 29) _ = _
           simp only [Act.put, List.setIfInBounds_toArray, List.set_cons_zero, List.set_cons_succ, i64_w, i32_w]
           rfl
          refine pT_ HT_.out 19 30 (bs 21 1048575) ?_
          refine pT_ HT_.out 20 31 (bs 21 2097151) ?_
          refine done_ (done_of HT_.out (by kernel_rfl)) ?_
          try go_wp2
          go_roundg k1
          case measure => have := HK1.out; omega
          case rel => exact ⟨(x3_1), (wrap64 (x4_1 + 1)), (by first | rfl | (simp; done) | (simp [*]; done)), (by first | rfl | (simp; done) | (simp [*]; done)), H', ⟨by have := HK1.out; omega⟩, ⟨blw_⟩⟩
        ·rw [if_neg c8] at H
         exact absurd H (by simp)
       ·rw [if_neg c7] at H
        exact absurd H (by simp)
     ·rw [if_neg c4] at H
      have c4b0 : decide (0 < ((rd_T30 l0 x4_1).f2)) = false := decide_eq_false c4
      clear c4
      have H' := Aside0.mk H
      clear H
      try go_wp2
      have n0_ := Aside0.mk (below_drew1 HB.out)
      clear HB
      have HB := n0_
      clear n0_
      have p185 : 0 ≤ (x4_1 : Int) := of_decide_eq_true (by first | (with_reducible assumption) | assumption)
      have q185 : x4_1 < (l0.length : Int) := of_decide_eq_true (by first | (with_reducible assumption) | assumption)
      obtain ⟨ad185, e185, hx185_0, hx185_1, hx185_2⟩ := at_T30 HR0.out x4_1 p185 q185
      have hw185_2 := hx185_2
      have hw185_1 := hx185_1
      have hw185_0 := hx185_0
      cases e185
      replace hx185_0 := (HB.out.cell (World.block_lt_of_cell? w _ hx185_0)).trans hx185_0
      replace hx185_1 := (HB.out.cell (World.block_lt_of_cell? w _ hx185_1)).trans hx185_1
      replace hx185_2 := (HB.out.cell (World.block_lt_of_cell? w _ hx185_2)).trans hx185_2
      replace p185 := eq_true p185
      replace q185 := eq_true q185
      refine start_ (n := 21) (S := fun w' => w'.cell? (ad185.add ((x4_1).toNat * 3)) = some (.int .i64 ((rd_T30 l0 x4_1).f0)) ∧ w'.cell? ⟨(ad185.add ((x4_1).toNat * 3)).block, (ad185.add ((x4_1).toNat * 3)).off + 1, none⟩ = some (.int .i64 ((rd_T30 l0 x4_1).f1)) ∧ w'.cell? ⟨(ad185.add ((x4_1).toNat * 3)).block, (ad185.add ((x4_1).toNat * 3)).off + 2, none⟩ = some (.int .i64 ((rd_T30 l0 x4_1).f2))) (ds := []) (bs 21 0) (by kernel_rfl) rfl (by kernel_rfl) ⟨((HB.out.cell (World.block_lt_of_cell? w _ hw185_0)).trans hw185_0), ((HB.out.cell (World.block_lt_of_cell? w _ hw185_1)).trans hw185_1), ((HB.out.cell (World.block_lt_of_cell? w _ hw185_2)).trans hw185_2)⟩ (fun hHeld => ?_); refine with_tabW spec_next.tab5 spec_next.bits5 (fun HT_ HW_ => ?_)
      generalize wr.drew = w15 at HB hx185_0 hx185_1 hx185_2 hHeld ⊢
      refine pT_ HT_.out 0 11 (bs 21 1) ?_
      refine pT_ HT_.out 1 12 (bs 21 3) ?_
      refine pT_ HT_.out 2 13 (bs 21 7) ?_
      refine pT_ HT_.out 3 14 (bs 21 15) ?_
      refine take_ (i := 4) (N := some 15) (v := ?_) (a' := ?_) (bs 21 31) rfl rfl (take_ofW HT_.out HW_.out (by kernel_rfl)) (fun _ _ _ h => h) (Or.inl ⟨by rfl, ?_⟩) hHeld ?_ ?_
      rotate_left
      ·rintro w' ⟨s0, s1, s2⟩
       go_simp
       with_reducible rfl
      rotate_left
      ·simp only [Act.put, List.setIfInBounds_toArray, List.set_cons_zero, List.set_cons_succ, i64_w, i32_w]
       rfl
      refine pT_ HT_.out 5 16 (bs 21 63) ?_
      refine pT_ HT_.out 6 17 (bs 21 127) ?_
      refine pU_ HT_.out 7 18 (bs 21 255) ?_
      refine pU_ HT_.out 8 19 (bs 21 511) ?_
      refine pU_ HT_.out 9 20 (bs 21 1023) ?_
      refine pU_ HT_.out 10 21 (bs 21 2047) ?_
      refine pU_ HT_.out 11 22 (bs 21 4095) ?_
      refine pU_ HT_.out 12 23 (bs 21 8191) ?_
      refine pU_ HT_.out 13 24 (bs 21 16383) ?_
      refine pU_ HT_.out 14 25 (bs 21 32767) ?_
      refine pU_ HT_.out 15 26 (bs 21 65535) ?_
      refine pU_ HT_.out 16 27 (bs 21 131071) ?_
      refine pU_ HT_.out 17 28 (bs 21 262143) ?_
      refine pU_ HT_.out 18 29 (bs 21 524287) ?_
      refine pU_ HT_.out 19 30 (bs 21 1048575) ?_
      refine pT_ HT_.out 20 31 (bs 21 2097151) ?_
      refine done_ (done_of HT_.out (by kernel_rfl)) ?_
      try go_wp2
      go_roundg k1
      case measure => have := HK1.out; omega
      case rel => exact ⟨(x3_1), (wrap64 (x4_1 + 1)), (by first | rfl | (simp; done) | (simp [*]; done)), (by first | rfl | (simp; done) | (simp [*]; done)), H', ⟨by have := HK1.out; omega⟩, ⟨blw_⟩⟩
    ·rw [if_neg c3] at H
     exact absurd H (by simp)
   ·rw [if_neg c2] at H
    have c2b0 : decide (x4_1 < (l0.length : Int)) = false := decide_eq_false c2
    clear c2
    obtain rfl := Option.some.inj H
    go_wp2
    go_ret
    exact ⟨by first | rfl | (simp [errW_none, errW_some] <;> rfl) | (simp [*, errW_none, errW_some] <;> rfl), blw_⟩

/-! ### spec_ServeUser: function 7 -/
def spec_ServeUser.f (k : Nat) (l0 : List (S30)) (a1 : Int) : Option ((List (S30)) × Int × Bool) := (spec_validUsers.f k l0).bind fun t189 => (if t189 = true then ((spec_inRange.f a1 1 20).bind fun t190 => (if t190 = true then ((spec_next.f k l0).bind fun t191 => (if t191 < 0 then (some (([] : List (S30)), (-1), false)) else ((spec_next.f k l0).bind fun t192 => ((some (([] : List (S30)) : List (S30))).bind fun y193 => (if y193.length + l0.length < 5864062014805 then ((some (y193 ++ l0 : List (S30))).bind fun y196 => (if 0 ≤ t192 then (if t192 < (y196.length : Int) then ((some (y196.set (t192 : Int).toNat (⟨(rd_T30 y196 t192).f0, mn (wrap64 (((rd_T30 y196 t192).f1) + a1)) 10000, (rd_T30 y196 t192).f2⟩ : S30) : List (S30))).bind fun y200 => (some ((y200.set (t192 : Int).toNat (⟨(rd_T30 y200 t192).f0, (rd_T30 y200 t192).f1, wrap64 (((rd_T30 y200 t192).f2) - 1)⟩ : S30)), t192, true))) else (none)) else (none))) else (none)))))) else (some (([] : List (S30)), (-1), false)))) else (some (([] : List (S30)), (-1), false)))
set_option maxHeartbeats 8000000 in
set_option maxRecDepth 100000 in
theorem spec_ServeUser.calls (k : Nat) (A0 : Option Addr) (c0 : Nat) (l0 : List (S30)) (a1 : Int) (r1 : List (S30)) (r2 : Int) (r3 : Bool) (w : World) (hr0 : Kd.C k30 w A0 l0.length l0) (hc0 : l0.length ≤ c0) (h : spec_ServeUser.f k l0 a1 = some (r1, r2, r3)) :
  Calls Try.prog 7 #[.slice A0 l0.length c0, .int .i64 a1] w fun e w' => ∃ v0_ : Value, e = .returned (.tuple #[v0_, .int .i64 r2, .bool r3]) ∧ Kd.R k30 30 w' w.heap.size (fun _ => True) v0_ r1 ∧ Below w.heap.size w w' := by
 have HR0 := Aside0.mk hr0
 have HC0 := Aside0.mk hc0
 clear hr0 hc0
 have HB := Aside0.mk (Below.refl w.heap.size w)
 have H : ((spec_validUsers.f k l0).bind fun t189 => (if t189 = true then ((spec_inRange.f a1 1 20).bind fun t190 => (if t190 = true then ((spec_next.f k l0).bind fun t191 => (if t191 < 0 then (some (([] : List (S30)), (-1), false)) else ((spec_next.f k l0).bind fun t192 => ((some (([] : List (S30)) : List (S30))).bind fun y193 => (if y193.length + l0.length < 5864062014805 then ((some (y193 ++ l0 : List (S30))).bind fun y196 => (if 0 ≤ t192 then (if t192 < (y196.length : Int) then ((some (y196.set (t192 : Int).toNat (⟨(rd_T30 y196 t192).f0, mn (wrap64 (((rd_T30 y196 t192).f1) + a1)) 10000, (rd_T30 y196 t192).f2⟩ : S30) : List (S30))).bind fun y200 => (some ((y200.set (t192 : Int).toNat (⟨(rd_T30 y200 t192).f0, (rd_T30 y200 t192).f1, wrap64 (((rd_T30 y200 t192).f2) - 1)⟩ : S30)), t192, true))) else (none)) else (none))) else (none)))))) else (some (([] : List (S30)), (-1), false)))) else (some (([] : List (S30)), (-1), false)))) = some (r1, r2, r3) := h
 clear h
 replace H := Option.bind_eq_some_iff.mp H
 obtain ⟨t189, A30, H⟩ := H
 replace H : (if t189 = true then ((spec_inRange.f a1 1 20).bind fun t190 => (if t190 = true then ((spec_next.f k l0).bind fun t191 => (if t191 < 0 then (some (([] : List (S30)), (-1), false)) else ((spec_next.f k l0).bind fun t192 => ((some (([] : List (S30)) : List (S30))).bind fun y193 => (if y193.length + l0.length < 5864062014805 then ((some (y193 ++ l0 : List (S30))).bind fun y196 => (if 0 ≤ t192 then (if t192 < (y196.length : Int) then ((some (y196.set (t192 : Int).toNat (⟨(rd_T30 y196 t192).f0, mn (wrap64 (((rd_T30 y196 t192).f1) + a1)) 10000, (rd_T30 y196 t192).f2⟩ : S30) : List (S30))).bind fun y200 => (some ((y200.set (t192 : Int).toNat (⟨(rd_T30 y200 t192).f0, (rd_T30 y200 t192).f1, wrap64 (((rd_T30 y200 t192).f2) - 1)⟩ : S30)), t192, true))) else (none)) else (none))) else (none)))))) else (some (([] : List (S30)), (-1), false)))) else (some (([] : List (S30)), (-1), false))) = some (r1, r2, r3) := H
 have A3 := Aside0.mk A30
 clear A30
 by_cases c4 : t189 = true
 ·subst c4
  have H1 : ((spec_inRange.f a1 1 20).bind fun t190 => (if t190 = true then ((spec_next.f k l0).bind fun t191 => (if t191 < 0 then (some (([] : List (S30)), (-1), false)) else ((spec_next.f k l0).bind fun t192 => ((some (([] : List (S30)) : List (S30))).bind fun y193 => (if y193.length + l0.length < 5864062014805 then ((some (y193 ++ l0 : List (S30))).bind fun y196 => (if 0 ≤ t192 then (if t192 < (y196.length : Int) then ((some (y196.set (t192 : Int).toNat (⟨(rd_T30 y196 t192).f0, mn (wrap64 (((rd_T30 y196 t192).f1) + a1)) 10000, (rd_T30 y196 t192).f2⟩ : S30) : List (S30))).bind fun y200 => (some ((y200.set (t192 : Int).toNat (⟨(rd_T30 y200 t192).f0, (rd_T30 y200 t192).f1, wrap64 (((rd_T30 y200 t192).f2) - 1)⟩ : S30)), t192, true))) else (none)) else (none))) else (none)))))) else (some (([] : List (S30)), (-1), false)))) = some (r1, r2, r3) := by rw [if_pos rfl] at H; exact H
  clear H
  have H := H1
  clear H1
  replace H := Option.bind_eq_some_iff.mp H
  obtain ⟨t190, A50, H⟩ := H
  replace H : (if t190 = true then ((spec_next.f k l0).bind fun t191 => (if t191 < 0 then (some (([] : List (S30)), (-1), false)) else ((spec_next.f k l0).bind fun t192 => ((some (([] : List (S30)) : List (S30))).bind fun y193 => (if y193.length + l0.length < 5864062014805 then ((some (y193 ++ l0 : List (S30))).bind fun y196 => (if 0 ≤ t192 then (if t192 < (y196.length : Int) then ((some (y196.set (t192 : Int).toNat (⟨(rd_T30 y196 t192).f0, mn (wrap64 (((rd_T30 y196 t192).f1) + a1)) 10000, (rd_T30 y196 t192).f2⟩ : S30) : List (S30))).bind fun y200 => (some ((y200.set (t192 : Int).toNat (⟨(rd_T30 y200 t192).f0, (rd_T30 y200 t192).f1, wrap64 (((rd_T30 y200 t192).f2) - 1)⟩ : S30)), t192, true))) else (none)) else (none))) else (none)))))) else (some (([] : List (S30)), (-1), false))) = some (r1, r2, r3) := H
  have A5 := Aside0.mk A50
  clear A50
  by_cases c6 : t190 = true
  ·subst c6
   have H1 : ((spec_next.f k l0).bind fun t191 => (if t191 < 0 then (some (([] : List (S30)), (-1), false)) else ((spec_next.f k l0).bind fun t192 => ((some (([] : List (S30)) : List (S30))).bind fun y193 => (if y193.length + l0.length < 5864062014805 then ((some (y193 ++ l0 : List (S30))).bind fun y196 => (if 0 ≤ t192 then (if t192 < (y196.length : Int) then ((some (y196.set (t192 : Int).toNat (⟨(rd_T30 y196 t192).f0, mn (wrap64 (((rd_T30 y196 t192).f1) + a1)) 10000, (rd_T30 y196 t192).f2⟩ : S30) : List (S30))).bind fun y200 => (some ((y200.set (t192 : Int).toNat (⟨(rd_T30 y200 t192).f0, (rd_T30 y200 t192).f1, wrap64 (((rd_T30 y200 t192).f2) - 1)⟩ : S30)), t192, true))) else (none)) else (none))) else (none)))))) = some (r1, r2, r3) := by rw [if_pos rfl] at H; exact H
   clear H
   have H := H1
   clear H1
   replace H := Option.bind_eq_some_iff.mp H
   obtain ⟨t191, A70, H⟩ := H
   replace H : (if t191 < 0 then (some (([] : List (S30)), (-1), false)) else ((spec_next.f k l0).bind fun t192 => ((some (([] : List (S30)) : List (S30))).bind fun y193 => (if y193.length + l0.length < 5864062014805 then ((some (y193 ++ l0 : List (S30))).bind fun y196 => (if 0 ≤ t192 then (if t192 < (y196.length : Int) then ((some (y196.set (t192 : Int).toNat (⟨(rd_T30 y196 t192).f0, mn (wrap64 (((rd_T30 y196 t192).f1) + a1)) 10000, (rd_T30 y196 t192).f2⟩ : S30) : List (S30))).bind fun y200 => (some ((y200.set (t192 : Int).toNat (⟨(rd_T30 y200 t192).f0, (rd_T30 y200 t192).f1, wrap64 (((rd_T30 y200 t192).f2) - 1)⟩ : S30)), t192, true))) else (none)) else (none))) else (none))))) = some (r1, r2, r3) := H
   have A7 := Aside0.mk A70
   clear A70
   by_cases c8 : t191 < 0
   ·rw [if_pos c8] at H
    have c8b0 : decide (t191 < 0) = true := decide_eq_true c8
    clear c8
    simp only [Option.some.injEq, Prod.mk.injEq] at H
    obtain ⟨rfl, rfl, rfl⟩ := H
    go_enter Try.func7, Try.ntmps7
    go_wp2_with (first | ((with_reducible refine gate_callee (f := 23) rfl ?_); refine goesC_ (some 10) Try.func23 #[.slice A0 l0.length c0] ?_; (with_reducible refine (spec_validUsers.calls k _ _ l0 true _ ?side1 ?side2 A3.out).mono ?_); (case side1 => exact cw_ HR0.out); (case side2 => exact HC0.out); rintro e w' ⟨rfl, ⟨nd, rfl⟩⟩; refine ⟨_, rfl, ?_⟩) | (go_at_call 24; (with_reducible refine (spec_inRange.calls a1 1 20 true _ A5.out).mono ?_); rintro e w' ⟨rfl, ⟨nd, rfl⟩⟩) | (go_at_call 25; (with_reducible refine (spec_next.calls k _ _ l0 t191 _ ?side1 ?side2 A7.out).mono ?_); (case side1 => exact cw_ HR0.out); (case side2 => exact HC0.out); rintro e w9 ⟨rfl, hb⟩; have n0_ := Aside0.mk (below_step blw_ hb); clear HB; have HB := n0_; clear n0_; (try clear hb); (try clear hb2); (try clear hk); (try clear hi)))
    go_ret3
    exact ⟨_, by first | rfl | (simp [errW_none, errW_some] <;> rfl) | (simp [*, errW_none, errW_some] <;> rfl), by first | exact Kd.R_nil _ _ _ _ _ | exact Kd.N_nil _ _ _ _ _ | exact Kd.V_nil _ _ _ _ _ | exact Kd.Q_nil _ _ _ _ _ | exact Kd.S_nil _ _ _ _ _, blw_⟩
   ·rw [if_neg c8] at H
    have c8b0 : decide (t191 < 0) = false := decide_eq_false c8
    clear c8
    replace H := Option.bind_eq_some_iff.mp H
    obtain ⟨t192, A100, H⟩ := H
    replace H : ((some (([] : List (S30)) : List (S30))).bind fun y193 => (if y193.length + l0.length < 5864062014805 then ((some (y193 ++ l0 : List (S30))).bind fun y196 => (if 0 ≤ t192 then (if t192 < (y196.length : Int) then ((some (y196.set (t192 : Int).toNat (⟨(rd_T30 y196 t192).f0, mn (wrap64 (((rd_T30 y196 t192).f1) + a1)) 10000, (rd_T30 y196 t192).f2⟩ : S30) : List (S30))).bind fun y200 => (some ((y200.set (t192 : Int).toNat (⟨(rd_T30 y200 t192).f0, (rd_T30 y200 t192).f1, wrap64 (((rd_T30 y200 t192).f2) - 1)⟩ : S30)), t192, true))) else (none)) else (none))) else (none))) = some (r1, r2, r3) := H
    have A10 := Aside0.mk A100
    clear A100
    obtain ⟨y193, hy193⟩ : ∃ y_ : List (S30), y_ = (([] : List (S30))) := ⟨_, rfl⟩
    replace H : (if y193.length + l0.length < 5864062014805 then ((some (y193 ++ l0 : List (S30))).bind fun y196 => (if 0 ≤ t192 then (if t192 < (y196.length : Int) then ((some (y196.set (t192 : Int).toNat (⟨(rd_T30 y196 t192).f0, mn (wrap64 (((rd_T30 y196 t192).f1) + a1)) 10000, (rd_T30 y196 t192).f2⟩ : S30) : List (S30))).bind fun y200 => (some ((y200.set (t192 : Int).toNat (⟨(rd_T30 y200 t192).f0, (rd_T30 y200 t192).f1, wrap64 (((rd_T30 y200 t192).f2) - 1)⟩ : S30)), t192, true))) else (none)) else (none))) else (none)) = some (r1, r2, r3) := by first | (rw [hy193]; with_reducible exact H) | (have H2_ := (Option.bind_some _ _).symm.trans H; rw [hy193]; with_reducible exact H2_) | (have H2_ := (Option.bind_some _ _).symm.trans H; with_reducible exact H2_) | with_reducible exact H | (rw [hy193]; exact H) | exact H
    have Ny193 := Aside0.mk hy193
    clear hy193
    by_cases c11 : y193.length + l0.length < 5864062014805
    ·rw [if_pos c11] at H
     have LMc11 := Aside0.mk c11
     clear c11
     obtain ⟨y196, hy196⟩ : ∃ y_ : List (S30), y_ = (y193 ++ l0) := ⟨_, rfl⟩
     replace H : (if 0 ≤ t192 then (if t192 < (y196.length : Int) then ((some (y196.set (t192 : Int).toNat (⟨(rd_T30 y196 t192).f0, mn (wrap64 (((rd_T30 y196 t192).f1) + a1)) 10000, (rd_T30 y196 t192).f2⟩ : S30) : List (S30))).bind fun y200 => (some ((y200.set (t192 : Int).toNat (⟨(rd_T30 y200 t192).f0, (rd_T30 y200 t192).f1, wrap64 (((rd_T30 y200 t192).f2) - 1)⟩ : S30)), t192, true))) else (none)) else (none)) = some (r1, r2, r3) := by first | (rw [hy196]; with_reducible exact H) | (have H2_ := (Option.bind_some _ _).symm.trans H; rw [hy196]; with_reducible exact H2_) | (have H2_ := (Option.bind_some _ _).symm.trans H; with_reducible exact H2_) | with_reducible exact H | (rw [hy196]; exact H) | exact H
     have Ny196 := Aside0.mk hy196
     clear hy196
     by_cases c12 : 0 ≤ t192
     ·rw [if_pos c12] at H
      have c12b0 : decide (0 ≤ t192) = true := decide_eq_true c12
      clear c12
      by_cases c13 : t192 < (y196.length : Int)
      ·rw [if_pos c13] at H
       have c13b0 : decide (t192 < (y196.length : Int)) = true := decide_eq_true c13
       clear c13
       obtain ⟨ji14, hji14⟩ : ∃ j_ : Int, (mn (wrap64 (((rd_T30 y196 t192).f1) + a1)) 10000) = j_ := ⟨_, rfl⟩
       replace H : ((some (y196.set (t192 : Int).toNat (⟨(rd_T30 y196 t192).f0, ji14, (rd_T30 y196 t192).f2⟩ : S30) : List (S30))).bind fun y200 => (some ((y200.set (t192 : Int).toNat (⟨(rd_T30 y200 t192).f0, (rd_T30 y200 t192).f1, wrap64 (((rd_T30 y200 t192).f2) - 1)⟩ : S30)), t192, true))) = some (r1, r2, r3) := by first | (rw [hji14] at H; exact H) | (simp only [hji14] at H ⊢; exact H)
       (try rw [hji14] at A3)
       (try rw [hji14] at A5)
       (try rw [hji14] at A7)
       (try rw [hji14] at A10)
       (try (have hji14h : ji14 ≤ 10000 := by (rw [← hji14]; unfold mn; (repeat' split) <;> omega)))
       (try (have hji14g : ji14 ≤ 64 := by omega))
       have hji14_ : (if 10000 < (wrap64 (((rd_T30 y196 t192).f1) + a1)) then 10000 else (wrap64 (((rd_T30 y196 t192).f1) + a1))) = ji14 := hji14
       obtain ⟨y200, hy200⟩ : ∃ y_ : List (S30), y_ = (y196.set (t192 : Int).toNat (⟨(rd_T30 y196 t192).f0, ji14, (rd_T30 y196 t192).f2⟩ : S30)) := ⟨_, rfl⟩
       replace H : (some ((y200.set (t192 : Int).toNat (⟨(rd_T30 y200 t192).f0, (rd_T30 y200 t192).f1, wrap64 (((rd_T30 y200 t192).f2) - 1)⟩ : S30)), t192, true)) = some (r1, r2, r3) := by first | (rw [hy200]; with_reducible exact H) | (have H2_ := (Option.bind_some _ _).symm.trans H; rw [hy200]; with_reducible exact H2_) | (have H2_ := (Option.bind_some _ _).symm.trans H; with_reducible exact H2_) | with_reducible exact H | (rw [hy200]; exact H) | exact H
       have Ny200 := Aside0.mk hy200
       clear hy200
       obtain ⟨y202, hy202⟩ : ∃ y_ : List (S30), y_ = (y200.set (t192 : Int).toNat (⟨(rd_T30 y200 t192).f0, (rd_T30 y200 t192).f1, wrap64 (((rd_T30 y200 t192).f2) - 1)⟩ : S30)) := ⟨_, rfl⟩
       replace H : (some (y202, t192, true)) = some (r1, r2, r3) := by first | (rw [hy202]; with_reducible exact H) | (have H2_ := (Option.bind_some _ _).symm.trans H; rw [hy202]; with_reducible exact H2_) | (have H2_ := (Option.bind_some _ _).symm.trans H; with_reducible exact H2_) | with_reducible exact H | (rw [hy202]; exact H) | exact H
       have Ny202 := Aside0.mk hy202
       clear hy202
       simp only [Option.some.injEq, Prod.mk.injEq] at H
       obtain ⟨rfl, rfl, rfl⟩ := H
       go_enter Try.func7, Try.ntmps7
       go_wp2_with (first | ((with_reducible refine gate_callee (f := 23) rfl ?_); refine goesC_ (some 10) Try.func23 #[.slice A0 l0.length c0] ?_; (with_reducible refine (spec_validUsers.calls k _ _ l0 true _ ?side1 ?side2 A3.out).mono ?_); (case side1 => exact cw_ HR0.out); (case side2 => exact HC0.out); rintro e w' ⟨rfl, ⟨nd, rfl⟩⟩; refine ⟨_, rfl, ?_⟩) | (go_at_call 24; (with_reducible refine (spec_inRange.calls a1 1 20 true _ A5.out).mono ?_); rintro e w' ⟨rfl, ⟨nd, rfl⟩⟩) | (go_at_call 25; (with_reducible refine (spec_next.calls k _ _ l0 t191 _ ?side1 ?side2 A7.out).mono ?_); (case side1 => exact cw_ HR0.out); (case side2 => exact HC0.out); rintro e w17 ⟨rfl, hb⟩; have n0_ := Aside0.mk (below_step blw_ hb); clear HB; have HB := n0_; clear n0_; (try clear hb); (try clear hb2); (try clear hk); (try clear hi)) | ((with_reducible refine gate_callee (f := 25) rfl ?_); refine goesC_ (some 23) Try.func25 #[.slice A0 l0.length c0] ?_; (with_reducible refine (spec_next.calls k _ _ l0 t192 _ ?side1 ?side2 A10.out).mono ?_); (case side1 => exact cw_ (Kd.C_below HR0.out HB.out)); (case side2 => exact HC0.out); rintro e w18 ⟨rfl, hb⟩; refine ⟨_, rfl, ?_⟩; have n0_ := Aside0.mk (below_step blw_ hb); clear HB; have HB := n0_; clear n0_; (try clear hb); (try clear hb2); (try clear hk); (try clear hi)) | ((with_reducible refine gate_dst (N := 24) rfl ?_); refine Kd.R_lit k30 _ 30 ?hg (N := 24) ?hd (xs := ([] : List (S30))) (inner := []) (ok := fun _ => True) (okp := fun _ => True) ?hr ?hp (fun _ hk => hk) trivial (Below.refl _ _) (Nat.le_refl _) (by simp) ?_; (case hd => rfl); (case hg => rfl); (case hr => first | (go_simp; done) | (go_simp; rfl)); (case hp => exact (Reps.none _ _)); intro v194 w19 ho20 hb hg_ hnew_; clear hg_ hnew_; (first | rw [← Ny193.out] at ho20 | (simp only [Int.reduceToNat] at ho20; rw [← Ny193.out] at ho20)); have n0_ := Aside0.mk (Kd.R_lower ho20 (below_size blw_)); have n1_ := Aside0.mk (below_step blw_ hb); clear HB; have HO195 := n0_; have HB := n1_; clear n0_ n1_; clear hb ho20) | ((with_reducible refine gate_builtin (b := .append) (xs := #[.tmp 24, .tmp 25]) rfl ?_); at_builtin; refine Kd.R_append_rows k30 (w0 := w) w.heap.size rfl (.tmp 24) (.tmp 25) 23 30 (.agg #[(.int .i64 0), (.int .i64 0), (.int .i64 0)]) 24 rfl Try.underlying23 info30 rfl (by decide) (by omega) v194 y193 l0 _ _ _ (fun _ => True) (fun _ => False) rfl rfl ?aO ?aR (fun _ _ h => h) (fun _ h => h.elim) ?aF ?aB ?aS ?aL ?_; (case aR => exact cw_ (Kd.C_below HR0.out HB.out)); (case aB => exact blw_); (case aF => exact (fun _ _ => trivial)); (case aO => exact (by (with_reducible repeat (first | apply Kd.R_alloc | apply Kd.R_drewN | apply Kd.R_drew)); exact HO195.out)); (case aS => exact (below_size blw_)); (case aL => have := LMc11.out; omega); intro v197 w21 ho hb hg hat; rw [← Ny196.out] at ho; have n0_ := Aside0.mk (hb); have n1_ := Aside0.mk (ho); clear HB; clear HO195; have HB := n0_; have HO198 := n1_; clear n0_ n1_; clear ho hb hg hat; obtain ⟨Ao22, co22, eo22⟩ := Kd.R_slice HO198.out; subst eo22; have p199 : 0 ≤ (t192 : Int) := of_decide_eq_true (by first | (with_reducible assumption) | assumption); have q199 : t192 < (y196.length : Int) := of_decide_eq_true (by first | (with_reducible assumption) | assumption); obtain ⟨ad199, e199, hx199_0, hx199_1, hx199_2⟩ := at_T30 (Kd.R_reads' HO198.out).2.2 t192 p199 q199; cases e199; replace p199 := eq_true p199; replace q199 := eq_true q199; have p15 : 0 ≤ (t192 : Int) := of_decide_eq_true (by first | (with_reducible assumption) | assumption); have q15 : (t192 : Int) < ((y196.length : Int) : Int) := of_decide_eq_true (by first | (with_reducible assumption) | assumption); obtain ⟨go15, co15, eo15, gb15, gl15, cl15, HG15⟩ := Kd.R_form HO198.out (by omega); (first | cases eo15 | (injection eo15 with ea_ en_ ec_; (first | subst ea_ | (injection ea_ with ea_; subst ea_)); subst ec_; clear en_)); have GB15 := Aside0.mk gb15; have GG15 := Aside0.mk HG15; clear gb15 gl15 HG15; (first | simp only [add_plain] at hx199_0 | skip); (first | simp only [add_plain] at hx199_1 | skip); (first | simp only [add_plain] at hx199_2 | skip); obtain ⟨ce15, hcl15, hM15, hcc15, hfr15⟩ := Kd.R_elem HO198.out z30 (t192 : Int) p15 q15; obtain rfl := k30_openM hM15; have hx15_0 : w21.cell? ⟨go15, (t192 : Int).toNat * 3, none⟩ = some (.int .i64 ((rd_T30 y196 t192).f0)) := hcc15 0 _ rfl; have hx15_1 : w21.cell? ⟨go15, (t192 : Int).toNat * 3 + 1, none⟩ = some (.int .i64 ((rd_T30 y196 t192).f1)) := hcc15 1 _ rfl; have hx15_2 : w21.cell? ⟨go15, (t192 : Int).toNat * 3 + 2, none⟩ = some (.int .i64 ((rd_T30 y196 t192).f2)) := hcc15 2 _ rfl; have hf15_0 : w21.frozen? ⟨go15, (t192 : Int).toNat * 3, none⟩ = false := hfr15 0; have hf15_1 : w21.frozen? ⟨go15, (t192 : Int).toNat * 3 + 1, none⟩ = false := hfr15 1; have hf15_2 : w21.frozen? ⟨go15, (t192 : Int).toNat * 3 + 2, none⟩ = false := hfr15 2; clear hcl15 hcc15 hfr15 hM15; replace p15 := eq_true p15; replace q15 := eq_true q15; have HX23 := Aside0.mk (show Kd.R k30 30 w21 w.heap.size (fun _ => True) (.slice (some ⟨go15, 0, none⟩) y196.length co22) y196 from (by (with_reducible repeat (first | apply Kd.R_alloc | apply Kd.R_drewN | apply Kd.R_drew)); exact HO198.out)); obtain ⟨ce23, hcl23, hM23, hcc23, hfr23⟩ := Kd.R_elem HX23.out z30 (t192 : Int) (of_decide_eq_true (by first | (with_reducible assumption) | assumption)) (by have h_ : (t192 : Int) < ((y196.length : Int) : Int) := of_decide_eq_true (by first | (with_reducible assumption) | assumption); first | exact h_ | (have e_ := (Kd.R_reads' HO198.out).1; omega) | simpa using h_); obtain rfl := k30_openM hM23; have HP23 := Kd.R_seg HX23.out (t192 : Int) (of_decide_eq_true (by first | (with_reducible assumption) | assumption)) (by have h_ : (t192 : Int) < ((y196.length : Int) : Int) := of_decide_eq_true (by first | (with_reducible assumption) | assumption); first | exact h_ | (have e_ := (Kd.R_reads' HO198.out).1; omega) | simpa using h_) (seg := [.int .i64 ji14]) (j := 1) hcl23 hcc23 (show 2 ≤ 3 from by decide) (x' := (⟨(rd_T30 y196 t192).f0, ji14, (rd_T30 y196 t192).f2⟩ : S30)) (k30_mkM _ _ _ (⟨(rd_T30 y196 t192).f0, ji14, (rd_T30 y196 t192).f2⟩ : S30) ) (fun _ hk => hk); have hx23_1 := hcc23 1 _ rfl; (try simp only [show (k30).sz = 3 from rfl, Nat.mul_one, Nat.add_zero] at hx23_1); have hf23_1 := hfr23 1; (try simp only [show (k30).sz = 3 from rfl, Nat.mul_one, Nat.add_zero] at hf23_1); clear hcl23 hcc23 hfr23 hM23) | ((with_reducible refine gate_store (t := 3) (p := 38) rfl ?_); refine store_event (t := 3) (p := 38) (v := ?vo_w24) (w1 := (w21.setCell ⟨go15, (t192 : Int).toNat * 3 + 1, none⟩ (.int .i64 ji14))) ?hg ?ho ?hn ?hr ?_; (case ho => rfl); (case hg => rfl); (case hn => rfl); (case hr => first | (go_simp; done) | (go_simp; rfl)); intro w24 hw; have hg : w21.grownBy w24 (some go15) := (by rw [hw]; exact HP23.2); have hp_ : Kd.R k30 30 w24 w.heap.size (fun _ => True) (.slice (some ⟨go15, 0, none⟩) y196.length co22) y200 := (by rw [hw, Ny200.out]; exact HP23.1); clear HP23; have n0_ := Aside0.mk (hp_); have n1_ := Aside0.mk ((by rw [hw]; exact below_set (HB.out) GB15.out : Below w.heap.size w w24)); clear HO198; clear HB; have HO198 := n0_; have HB := n1_; clear n0_ n1_; clear hg hw hp_; have p201 : 0 ≤ (t192 : Int) := of_decide_eq_true (by first | (with_reducible assumption) | assumption); have q201 : t192 < (y200.length : Int) := (by have h_ : (t192 : Int) < ((y196.length : Int) : Int) := of_decide_eq_true (by first | (with_reducible assumption) | assumption); first | (have e_ := (Kd.R_reads' HO198.out).1; omega) | simpa only [Ny200.out, List.length_set] using h_); have ql201 : ((t192 : Int) < ((y196.length : Int) : Int)) = True := eq_true (of_decide_eq_true (by first | (with_reducible assumption) | assumption)); obtain ⟨ad201, e201, hx201_0, hx201_1, hx201_2⟩ := at_T30 (Kd.R_reads' HO198.out).2.2 t192 p201 q201; obtain rfl : (⟨go15, 0, none⟩ : Addr) = ad201 := (by injection e201); (first | simp only [add_plain] at hx201_0 | simp only [add_at] at hx201_0 | simp only [Addr.add, Nat.zero_add] at hx201_0 | skip); (first | simp only [add_plain] at hx201_1 | simp only [add_at] at hx201_1 | simp only [Addr.add, Nat.zero_add] at hx201_1 | skip); (first | simp only [add_plain] at hx201_2 | simp only [add_at] at hx201_2 | simp only [Addr.add, Nat.zero_add] at hx201_2 | skip); replace p201 := eq_true p201; replace q201 := eq_true q201; have p16 : 0 ≤ (t192 : Int) := of_decide_eq_true (by first | (with_reducible assumption) | assumption); have q16 : (t192 : Int) < ((y196.length : Int) : Int) := of_decide_eq_true (by first | (with_reducible assumption) | assumption); obtain ⟨ce16, hcl16, hM16, hcc16, hfr16⟩ := Kd.R_elem HO198.out z30 (t192 : Int) p16 q16; obtain rfl := k30_openM hM16; have hx16_0 : w24.cell? ⟨go15, (t192 : Int).toNat * 3, none⟩ = some (.int .i64 ((rd_T30 y200 t192).f0)) := hcc16 0 _ rfl; have hx16_1 : w24.cell? ⟨go15, (t192 : Int).toNat * 3 + 1, none⟩ = some (.int .i64 ((rd_T30 y200 t192).f1)) := hcc16 1 _ rfl; have hx16_2 : w24.cell? ⟨go15, (t192 : Int).toNat * 3 + 2, none⟩ = some (.int .i64 ((rd_T30 y200 t192).f2)) := hcc16 2 _ rfl; have hf16_0 : w24.frozen? ⟨go15, (t192 : Int).toNat * 3, none⟩ = false := hfr16 0; have hf16_1 : w24.frozen? ⟨go15, (t192 : Int).toNat * 3 + 1, none⟩ = false := hfr16 1; have hf16_2 : w24.frozen? ⟨go15, (t192 : Int).toNat * 3 + 2, none⟩ = false := hfr16 2; clear hcl16 hcc16 hfr16 hM16; replace p16 := eq_true p16; replace q16 := eq_true q16; have HX25 := Aside0.mk (show Kd.R k30 30 w24 w.heap.size (fun _ => True) (.slice (some ⟨go15, 0, none⟩) y196.length co22) y200 from (by (with_reducible repeat (first | apply Kd.R_alloc | apply Kd.R_drewN | apply Kd.R_drew)); exact HO198.out)); obtain ⟨ce25, hcl25, hM25, hcc25, hfr25⟩ := Kd.R_elem HX25.out z30 (t192 : Int) (of_decide_eq_true (by first | (with_reducible assumption) | assumption)) (by have h_ : (t192 : Int) < ((y196.length : Int) : Int) := of_decide_eq_true (by first | (with_reducible assumption) | assumption); first | exact h_ | (have e_ := (Kd.R_reads' HO198.out).1; omega) | simpa using h_); obtain rfl := k30_openM hM25; have HP25 := Kd.R_seg HX25.out (t192 : Int) (of_decide_eq_true (by first | (with_reducible assumption) | assumption)) (by have h_ : (t192 : Int) < ((y196.length : Int) : Int) := of_decide_eq_true (by first | (with_reducible assumption) | assumption); first | exact h_ | (have e_ := (Kd.R_reads' HO198.out).1; omega) | simpa using h_) (seg := [.int .i64 (wrap64 (((rd_T30 y200 t192).f2) - 1))]) (j := 2) hcl25 hcc25 (show 3 ≤ 3 from by decide) (x' := (⟨(rd_T30 y200 t192).f0, (rd_T30 y200 t192).f1, wrap64 (((rd_T30 y200 t192).f2) - 1)⟩ : S30)) (k30_mkM _ _ _ (⟨(rd_T30 y200 t192).f0, (rd_T30 y200 t192).f1, wrap64 (((rd_T30 y200 t192).f2) - 1)⟩ : S30) ) (fun _ hk => hk); have hx25_2 := hcc25 2 _ rfl; (try simp only [show (k30).sz = 3 from rfl, Nat.mul_one, Nat.add_zero] at hx25_2); have hf25_2 := hfr25 2; (try simp only [show (k30).sz = 3 from rfl, Nat.mul_one, Nat.add_zero] at hf25_2); clear hcl25 hcc25 hfr25 hM25) | ((with_reducible refine gate_store (t := 3) (p := 48) rfl ?_); refine store_event (t := 3) (p := 48) (v := ?vo_w26) (w1 := (w24.setCell ⟨go15, (t192 : Int).toNat * 3 + 2, none⟩ (.int .i64 (wrap64 (((rd_T30 y200 t192).f2) - 1))))) ?hg ?ho ?hn ?hr ?_; (case ho => rfl); (case hg => rfl); (case hn => rfl); (case hr => first | (go_simp; done) | (go_simp; rfl)); intro w26 hw; have hg : w24.grownBy w26 (some go15) := (by rw [hw]; exact HP25.2); have hp_ : Kd.R k30 30 w26 w.heap.size (fun _ => True) (.slice (some ⟨go15, 0, none⟩) y196.length co22) y202 := (by rw [hw, Ny202.out]; exact HP25.1); clear HP25; have n0_ := Aside0.mk (hp_); have n1_ := Aside0.mk ((by rw [hw]; exact below_set (HB.out) GB15.out : Below w.heap.size w w26)); clear HO198; clear HB; have HO198 := n0_; have HB := n1_; clear n0_ n1_; clear hg hw hp_))
       go_ret3
       exact ⟨_, by first | rfl | (simp [errW_none, errW_some] <;> rfl) | (simp only [← hji14]; first | rfl | (simp [errW_none, errW_some] <;> rfl)) | (simp [*, errW_none, errW_some] <;> rfl), by (with_reducible repeat (first | apply Kd.R_alloc | apply Kd.R_drewN | apply Kd.R_drew)); exact HO198.out, blw_⟩
      ·rw [if_neg c13] at H
       exact absurd H (by simp)
     ·rw [if_neg c12] at H
      exact absurd H (by simp)
    ·rw [if_neg c11] at H
     exact absurd H (by simp)
  ·replace c6 := Bool.eq_false_iff.mpr c6
   subst c6
   have H1 : (some (([] : List (S30)), (-1), false)) = some (r1, r2, r3) := by rw [if_neg (show ¬ (false = true) by decide)] at H; exact H
   clear H
   have H := H1
   clear H1
   simp only [Option.some.injEq, Prod.mk.injEq] at H
   obtain ⟨rfl, rfl, rfl⟩ := H
   go_enter Try.func7, Try.ntmps7
   go_wp2_with (first | ((with_reducible refine gate_callee (f := 23) rfl ?_); refine goesC_ (some 10) Try.func23 #[.slice A0 l0.length c0] ?_; (with_reducible refine (spec_validUsers.calls k _ _ l0 true _ ?side1 ?side2 A3.out).mono ?_); (case side1 => exact cw_ HR0.out); (case side2 => exact HC0.out); rintro e w' ⟨rfl, ⟨nd, rfl⟩⟩; refine ⟨_, rfl, ?_⟩) | (go_at_call 24; (with_reducible refine (spec_inRange.calls a1 1 20 false _ A5.out).mono ?_); rintro e w' ⟨rfl, ⟨nd, rfl⟩⟩))
   go_ret3
   exact ⟨_, by first | rfl | (simp [errW_none, errW_some] <;> rfl) | (simp [*, errW_none, errW_some] <;> rfl), by first | exact Kd.R_nil _ _ _ _ _ | exact Kd.N_nil _ _ _ _ _ | exact Kd.V_nil _ _ _ _ _ | exact Kd.Q_nil _ _ _ _ _ | exact Kd.S_nil _ _ _ _ _, blw_⟩
 ·replace c4 := Bool.eq_false_iff.mpr c4
  subst c4
  have H1 : (some (([] : List (S30)), (-1), false)) = some (r1, r2, r3) := by rw [if_neg (show ¬ (false = true) by decide)] at H; exact H
  clear H
  have H := H1
  clear H1
  simp only [Option.some.injEq, Prod.mk.injEq] at H
  obtain ⟨rfl, rfl, rfl⟩ := H
  go_enter Try.func7, Try.ntmps7
  go_wp2_with (first | ((with_reducible refine gate_callee (f := 23) rfl ?_); refine goesC_ (some 10) Try.func23 #[.slice A0 l0.length c0] ?_; (with_reducible refine (spec_validUsers.calls k _ _ l0 false _ ?side1 ?side2 A3.out).mono ?_); (case side1 => exact cw_ HR0.out); (case side2 => exact HC0.out); rintro e w' ⟨rfl, ⟨nd, rfl⟩⟩; refine ⟨_, rfl, ?_⟩))
  go_ret3
  exact ⟨_, by first | rfl | (simp [errW_none, errW_some] <;> rfl) | (simp [*, errW_none, errW_some] <;> rfl), by first | exact Kd.R_nil _ _ _ _ _ | exact Kd.N_nil _ _ _ _ _ | exact Kd.V_nil _ _ _ _ _ | exact Kd.Q_nil _ _ _ _ _ | exact Kd.S_nil _ _ _ _ _, blw_⟩

/-! ### laws_equalUsers: function 8 -/
def laws_equalUsers.l0 : Nat → List (S30) → List (S30) → Int → Option (Bool)
 | 0, _, _, _ => none
 | k + 1, x0, x1, x5 => if x5 < (x0.length : Int) then (if 0 ≤ x5 then (if x5 < (x1.length : Int) then (if (!(((rd_T30 x0 x5).f0) == ((rd_T30 x1 x5).f0)) || (!(((rd_T30 x0 x5).f1) == ((rd_T30 x1 x5).f1)) || (!(((rd_T30 x0 x5).f2) == ((rd_T30 x1 x5).f2))))) = true then (some false) else (laws_equalUsers.l0 k x0 x1 (wrap64 (x5 + 1)))) else (none)) else (none)) else (some true)
def laws_equalUsers.f (k : Nat) (l0 : List (S30)) (l1 : List (S30)) : Option (Bool) := if (l0.length : Int) = (l1.length : Int) then (laws_equalUsers.l0 k l0 l1 0) else (some false)
set_option maxHeartbeats 8000000 in
set_option maxRecDepth 100000 in
theorem laws_equalUsers.calls (k : Nat) (A0 : Option Addr) (c0 : Nat) (l0 : List (S30)) (A1 : Option Addr) (c1 : Nat) (l1 : List (S30)) (r : Bool) (w : World) (hr0 : Kd.C k30 w A0 l0.length l0) (hc0 : l0.length ≤ c0) (hr1 : Kd.C k30 w A1 l1.length l1) (hc1 : l1.length ≤ c1) (h : laws_equalUsers.f k l0 l1 = some r) :
  Calls Try.prog 8 #[.slice A0 l0.length c0, .slice A1 l1.length c1] w fun e w' => e = .returned (.bool r) ∧ Drawn0 w w' := by
 have hu30 := Try.underlying30
 have HR0 := Aside0.mk hr0
 have HC0 := Aside0.mk hc0
 clear hr0 hc0
 have HR1 := Aside0.mk hr1
 have HC1 := Aside0.mk hc1
 clear hr1 hc1
 have H : (if (l0.length : Int) = (l1.length : Int) then (laws_equalUsers.l0 k l0 l1 0) else (some false)) = some r := h
 clear h
 by_cases c3 : (l0.length : Int) = (l1.length : Int)
 ·rw [if_pos c3] at H
  have c3b0 : ((l0.length : Int) == (l1.length : Int)) = true := beq_iff_eq.mpr c3
  have c3b1 : ((l0.length : Int) != (l1.length : Int)) = false := bne_eq_false_iff_eq.mpr c3
  have c3b2 : (l0.length == l1.length) = true := by first | simpa using c3 | (simp at c3 ⊢; omega)
  clear c3
  have H' := Aside0.mk H
  clear H
  go_enter Try.func8, Try.ntmps8
  go_wp2
  repeat (go_quiet (fail); try go_wp2)
  go_loopg [5] k (fun kq v5 w' => ∃ (x5_1 : Int), v5 = .int .i64 x5_1 ∧ Aside0 (laws_equalUsers.l0 kq l0 l1 x5_1 = some r) ∧ Aside0 (kq ≤ k) ∧ Drawn0 w w')
  case atStart => exact ⟨(0), (by first | rfl | (simp; done) | (simp [*]; done)), H', ⟨Nat.le_refl _⟩, by repeat (first | exact Drawn0.refl _ | apply Drawn0.step)⟩
  case round =>
   clear H'
   try clear c1
   try clear p2
   try clear c3
   try clear c3b0
   try clear c3b1
   try clear c3b2
   obtain ⟨x5_1, rfl, HA, HK1, ⟨m1, rfl⟩⟩ := hrel
   cases gk with
   | zero => exact absurd HA.out (by simp [laws_equalUsers.l0])
   | succ k1 =>
    have H := HA.out
    clear HA
    simp only [laws_equalUsers.l0] at H
    by_cases c4 : x5_1 < (l0.length : Int)
    ·rw [if_pos c4] at H
     have c4b0 : decide (x5_1 < (l0.length : Int)) = true := decide_eq_true c4
     clear c4
     by_cases c5 : 0 ≤ x5_1
     ·rw [if_pos c5] at H
      have c5b0 : decide (0 ≤ x5_1) = true := decide_eq_true c5
      clear c5
      by_cases c6 : x5_1 < (l1.length : Int)
      ·rw [if_pos c6] at H
       have c6b0 : decide (x5_1 < (l1.length : Int)) = true := decide_eq_true c6
       clear c6
       by_cases c7 : (!(((rd_T30 l0 x5_1).f0) == ((rd_T30 l1 x5_1).f0)) || (!(((rd_T30 l0 x5_1).f1) == ((rd_T30 l1 x5_1).f1)) || (!(((rd_T30 l0 x5_1).f2) == ((rd_T30 l1 x5_1).f2))))) = true
       ·rw [if_pos c7] at H
        have c7b0 : (!(((rd_T30 l0 x5_1).f0) == ((rd_T30 l1 x5_1).f0)) || (!(((rd_T30 l0 x5_1).f1) == ((rd_T30 l1 x5_1).f1)) || (!(((rd_T30 l0 x5_1).f2) == ((rd_T30 l1 x5_1).f2))))) = true := c7
        clear c7
        obtain rfl := Option.some.inj H
        have p203 : 0 ≤ (x5_1 : Int) := of_decide_eq_true (by first | (with_reducible assumption) | assumption)
        have q203 : x5_1 < (l0.length : Int) := of_decide_eq_true (by first | (with_reducible assumption) | assumption)
        obtain ⟨ad203, e203, hx203_0, hx203_1, hx203_2⟩ := at_T30 HR0.out x5_1 p203 q203
        cases e203
        replace p203 := eq_true p203
        replace q203 := eq_true q203
        have p204 : 0 ≤ (x5_1 : Int) := of_decide_eq_true (by first | (with_reducible assumption) | assumption)
        have q204 : x5_1 < (l1.length : Int) := of_decide_eq_true (by first | (with_reducible assumption) | assumption)
        obtain ⟨ad204, e204, hx204_0, hx204_1, hx204_2⟩ := at_T30 HR1.out x5_1 p204 q204
        cases e204
        replace p204 := eq_true p204
        replace q204 := eq_true q204
        go_wp2
        repeat (go_quiet (fail); try go_wp2)
        go_ret
        exact ⟨by first | rfl | (simp; done) | (simp [*]; done), by repeat (first | exact Drawn0.refl _ | apply Drawn0.step)⟩
       ·rw [if_neg c7] at H
        have c7b0 : (!(((rd_T30 l0 x5_1).f0) == ((rd_T30 l1 x5_1).f0)) || (!(((rd_T30 l0 x5_1).f1) == ((rd_T30 l1 x5_1).f1)) || (!(((rd_T30 l0 x5_1).f2) == ((rd_T30 l1 x5_1).f2))))) = false := by simpa using c7
        clear c7
        have H' := Aside0.mk H
        clear H
        have p203 : 0 ≤ (x5_1 : Int) := of_decide_eq_true (by first | (with_reducible assumption) | assumption)
        have q203 : x5_1 < (l0.length : Int) := of_decide_eq_true (by first | (with_reducible assumption) | assumption)
        obtain ⟨ad203, e203, hx203_0, hx203_1, hx203_2⟩ := at_T30 HR0.out x5_1 p203 q203
        cases e203
        replace p203 := eq_true p203
        replace q203 := eq_true q203
        have p204 : 0 ≤ (x5_1 : Int) := of_decide_eq_true (by first | (with_reducible assumption) | assumption)
        have q204 : x5_1 < (l1.length : Int) := of_decide_eq_true (by first | (with_reducible assumption) | assumption)
        obtain ⟨ad204, e204, hx204_0, hx204_1, hx204_2⟩ := at_T30 HR1.out x5_1 p204 q204
        cases e204
        replace p204 := eq_true p204
        replace q204 := eq_true q204
        go_wp2
        repeat (go_quiet (fail); try go_wp2)
        go_roundg k1
        case measure => have := HK1.out; omega
        case rel => exact ⟨(wrap64 (x5_1 + 1)), (by first | rfl | (simp; done) | (simp [*]; done)), H', ⟨by have := HK1.out; omega⟩, by repeat (first | exact Drawn0.refl _ | apply Drawn0.step)⟩
      ·rw [if_neg c6] at H
       exact absurd H (by simp)
     ·rw [if_neg c5] at H
      exact absurd H (by simp)
    ·rw [if_neg c4] at H
     have c4b0 : decide (x5_1 < (l0.length : Int)) = false := decide_eq_false c4
     clear c4
     obtain rfl := Option.some.inj H
     go_wp2
     repeat (go_quiet (fail); try go_wp2)
     go_ret
     exact ⟨by first | rfl | (simp; done) | (simp [*]; done), by repeat (first | exact Drawn0.refl _ | apply Drawn0.step)⟩
 ·rw [if_neg c3] at H
  have c3b0 : ((l0.length : Int) == (l1.length : Int)) = false := beq_eq_false_iff_ne.mpr c3
  have c3b1 : ((l0.length : Int) != (l1.length : Int)) = true := bne_iff_ne.mpr c3
  have c3b2 : (l0.length == l1.length) = false := by first | simpa using c3 | (simp at c3 ⊢; omega)
  obtain rfl := Option.some.inj H
  go_enter Try.func8, Try.ntmps8
  go_wp2
  repeat (go_quiet (fail); try go_wp2)
  go_ret
  exact ⟨by first | rfl | (simp; done) | (simp [*]; done), by repeat (first | exact Drawn0.refl _ | apply Drawn0.step)⟩

end Go.Proofs.Ytflponipbdgkeaa.G
