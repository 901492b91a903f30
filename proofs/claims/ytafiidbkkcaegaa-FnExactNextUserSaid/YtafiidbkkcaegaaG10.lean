-- Written by hyb.py, a driver of this session round the print.py of the kit. Lean checks it.
import Derived.Test.YtafiidbkkcaegaaG0
import Derived.Test.YtafiidbkkcaegaaG1
import Derived.Test.YtafiidbkkcaegaaG3
import Derived.Test.YtafiidbkkcaegaaG4
import Derived.Test.YtafiidbkkcaegaaG5
import Derived.Test.YtafiidbkkcaegaaG6
namespace Go.Proofs.Ytafiidbkkcaegaa.G
open Go.RowKit Go.Proofs.YtafiidbkkcaegaaW.PrintWords Go.Proofs.YtafiidbkkcaegaaW.PrintLast Go.Proofs.YtafiidbkkcaegaaW.PrintMore
attribute [local go_sem] max2_int min2_int max_two min_two max_three min_three max_four min_four   -- for this text's walks alone
set_option linter.unusedVariables false
set_option linter.unusedSimpArgs false

attribute [local go_sem high] eqA27
/-! ### spec_DrawServeUser: function 16 -/
def spec_DrawServeUser.f (k : Nat) (l0 : List Int) : Option ((List (S27)) × Int) := (spec_newReader.f l0).bind fun bt251 => ((spec_anyUsers.f k bt251.1 bt251.2).bind fun bt254 => ((spec_reader_one.f k bt251.1 bt254.2 (([1, 5, 20, 0, 21, 10] : List Int))).bind fun bt261 => (some (bt254.1, bt261.1))))
theorem spec_DrawServeUser.mono : ∀ a0 k, LeO (spec_DrawServeUser.f k a0) (spec_DrawServeUser.f (k + 1) a0) := by
  intro a0 k
  unfold spec_DrawServeUser.f
  repeat' first
      | (with_reducible exact spec_anyUsers.mono _ _ _)
      | (with_reducible exact spec_reader_one.mono _ _ _ _)
      | (with_reducible exact LeO.refl _)
      | (with_reducible exact LeO.none _)
      | (with_reducible refine LeO.ite ?_ ?_)
      | (with_reducible refine LeO.bind ?_ (fun _ => ?_))
      | exact spec_anyUsers.mono _ _ _
      | exact spec_reader_one.mono _ _ _ _
      | exact LeO.none _
      | refine LeO.ite ?_ ?_
      | refine LeO.bind ?_ (fun _ => ?_)
set_option maxHeartbeats 8000000 in
set_option maxRecDepth 100000 in
theorem spec_DrawServeUser.calls (k : Nat) (A0 : Option Addr) (c0 : Nat) (l0 : List Int) (r1 : List (S27)) (r2 : Int) (w : World) (hr0 : Kd.C (Kd.int .u8) w A0 l0.length l0) (hc0 : l0.length ≤ c0) (h : spec_DrawServeUser.f k l0 = some (r1, r2)) :
    Calls Try.prog 16 #[.slice A0 l0.length c0] w fun e w' => ∃ v0_ : Value, e = .returned (.tuple #[v0_, .int .i64 r2]) ∧ Kd.R k27 27 w' w.heap.size (fun _ => True) v0_ r1 ∧ Below w.heap.size w w' := by
  have HR0 := Aside0.mk hr0
  have HC0 := Aside0.mk hc0
  clear hr0 hc0
  have HB := Aside0.mk (Below.refl w.heap.size w)
  have H : ((spec_newReader.f l0).bind fun bt251 => ((spec_anyUsers.f k bt251.1 bt251.2).bind fun bt254 => ((spec_reader_one.f k bt251.1 bt254.2 (([1, 5, 20, 0, 21, 10] : List Int))).bind fun bt261 => (some (bt254.1, bt261.1))))) = some (r1, r2) := h
  clear h
  replace H := Option.bind_eq_some_iff.mp H
  obtain ⟨⟨t251, t252⟩, A20, H⟩ := H
  replace H : ((spec_anyUsers.f k t251 t252).bind fun bt254 => ((spec_reader_one.f k t251 bt254.2 (([1, 5, 20, 0, 21, 10] : List Int))).bind fun bt261 => (some (bt254.1, bt261.1)))) = some (r1, r2) := H
  have A2 := Aside0.mk A20
  clear A20
  replace H := Option.bind_eq_some_iff.mp H
  obtain ⟨⟨t254, t257⟩, A30, H⟩ := H
  replace H : ((spec_reader_one.f k t251 t257 (([1, 5, 20, 0, 21, 10] : List Int))).bind fun bt261 => (some (t254, bt261.1))) = some (r1, r2) := H
  have A3 := Aside0.mk A30
  clear A30
  obtain ⟨y258, hy258⟩ : ∃ y_ : List Int, y_ = (([1, 5, 20, 0, 21, 10] : List Int)) := ⟨_, rfl⟩
  replace H : ((spec_reader_one.f k t251 t257 y258).bind fun bt261 => (some (t254, bt261.1))) = some (r1, r2) := by first | (rw [hy258]; with_reducible exact H) | (have H2_ := (Option.bind_some _ _).symm.trans H; rw [hy258]; with_reducible exact H2_) | (have H2_ := (Option.bind_some _ _).symm.trans H; with_reducible exact H2_) | with_reducible exact H | (rw [hy258]; exact H) | exact H
  have Ny258 := Aside0.mk hy258
  clear hy258
  replace H := Option.bind_eq_some_iff.mp H
  obtain ⟨⟨t261, t262⟩, A40, H⟩ := H
  replace H : (some (t254, t261)) = some (r1, r2) := H
  have A4 := Aside0.mk A40
  clear A40
  simp only [Option.some.injEq, Prod.mk.injEq] at H
  obtain ⟨rfl, rfl⟩ := H
  go_enter Try.func16, Try.ntmps16
  go_wp2_with (first | ((with_reducible refine gate_callee (f := 21) rfl ?_); refine goesL_ (some 7) rfl rfl Try.func21 (by kernel_rfl) rfl #[.slice A0 l0.length c0] rfl (by (try simp only [List.map_toArray, List.map_cons, List.map_nil]); first | done | rfl | (simp only [List.length_drop, List.length_take]; rfl)) ?_; (with_reducible refine (spec_newReader.calls _ _ l0 t251 t252 w _ ?side1 ?side2 ?side3 A2.out).mono ?_); (case side1 => repeat (first | (with_reducible first | exact HB.out | apply below_alloc | apply pw_below_drewN | apply below_drew1) | exact HB.out)); (case side2 => exact HR0.out); (case side3 => exact HC0.out); rintro e w5 ⟨g253, rfl, hi, hb, hb2⟩; refine ⟨_, rfl, ?_⟩; have n0_ := Aside0.mk (hb); have n1_ := Aside0.mk (hi); clear HB; have HB := n0_; have HI253 := n1_; clear n0_ n1_; (try clear hb); (try clear hb2); (try clear hk); (try clear hi)) | ((with_reducible refine gate_callee (f := 20) rfl ?_); refine goesL_ (some 9) rfl rfl Try.func20 (by kernel_rfl) rfl #[.pointer (some ⟨g253, 0, none⟩)] rfl (by (try simp only [List.map_toArray, List.map_cons, List.map_nil]); first | done | rfl | (simp only [List.length_drop, List.length_take]; rfl)) ?_; (with_reducible refine (spec_anyUsers.calls k g253 t251 t252 t254 t257 w _ ?side1 ?side2 A3.out).mono ?_); (case side1 => repeat (first | (with_reducible first | exact HI253.out | apply IsS56.alloc | apply IsS56.drewN | apply IsS56.drew | apply IsS56.set_1) | exact HI253.out)); (case side2 => repeat (first | (with_reducible first | exact HB.out | apply below_alloc | apply pw_below_drewN | apply below_drew1 | refine below_set ?_ (IsS56.ge HI253.out)) | exact HB.out)); rintro e w6 ⟨v255, rfl, ho0, hi, hb, hk⟩; refine ⟨_, rfl, ?_⟩; have n0_ := Aside0.mk (Kd.R_lower ho0 (below_size (by repeat (first | (with_reducible first | exact HB.out | apply below_alloc | apply pw_below_drewN | apply below_drew1 | refine below_set ?_ (IsS56.ge HI253.out)) | exact HB.out)))); have n1_ := Aside0.mk (hb); have n2_ := Aside0.mk (hi); clear HB; clear HI253; have HO256 := n0_; have HB := n1_; have HI253 := n2_; clear n0_ n1_ n2_; (try clear hb); (try clear hb2); (try clear hk); (try clear hi); (try clear ho0)) | ((with_reducible refine gate_dst (N := 12) rfl ?_); refine Kd.R_lit (Kd.int .i64) _ 3 ?hg (N := 12) ?hd (xs := ([1, 5, 20, 0, 21, 10] : List Int)) (inner := [.int .i64 1, .int .i64 5, .int .i64 20, .int .i64 0, .int .i64 21, .int .i64 10]) (ok := fun _ => True) (okp := fun _ => True) ?hr ?hp (fun _ hk => hk) trivial (Below.refl _ _) (Nat.le_refl _) (by simp) ?_; (case hd => rfl); (case hg => rfl); (case hr => first | (go_simp; done) | (go_simp; rfl)); (case hp => exact (Reps.one (show Kd.M (Kd.int .i64) _ _ _ 1 [.int .i64 1] from rfl) (Reps.one (show Kd.M (Kd.int .i64) _ _ _ 5 [.int .i64 5] from rfl) (Reps.one (show Kd.M (Kd.int .i64) _ _ _ 20 [.int .i64 20] from rfl) (Reps.one (show Kd.M (Kd.int .i64) _ _ _ 0 [.int .i64 0] from rfl) (Reps.one (show Kd.M (Kd.int .i64) _ _ _ 21 [.int .i64 21] from rfl) (Reps.one (show Kd.M (Kd.int .i64) _ _ _ 10 [.int .i64 10] from rfl) (Reps.none _ _)))))))); intro v259 w7 ho8 hb hg_ hnew_; clear hg_ hnew_; (first | rw [← Ny258.out] at ho8 | (simp only [Int.reduceToNat] at ho8; rw [← Ny258.out] at ho8)); have n0_ := Aside0.mk (Kd.R_below (by (with_reducible repeat (first | apply Kd.R_alloc | apply Kd.R_drewN | apply Kd.R_drew)); exact HO256.out) hb); have n1_ := Aside0.mk (Kd.R_lower ho8 (below_size (by repeat (first | (with_reducible first | exact HB.out | apply below_alloc | apply pw_below_drewN | apply below_drew1 | refine below_set ?_ (IsS56.ge HI253.out)) | exact HB.out)))); have n2_ := Aside0.mk (IsS56.below (by repeat (first | (with_reducible first | exact HI253.out | apply IsS56.alloc | apply IsS56.drewN | apply IsS56.drew | apply IsS56.set_1) | exact HI253.out)) hb); have n3_ := Aside0.mk (below_step (by repeat (first | (with_reducible first | exact HB.out | apply below_alloc | apply pw_below_drewN | apply below_drew1 | refine below_set ?_ (IsS56.ge HI253.out)) | exact HB.out)) hb); clear HO256; clear HI253; clear HB; have HO256 := n0_; have HO260 := n1_; have HI253 := n2_; have HB := n3_; clear n0_ n1_ n2_ n3_; clear hb ho8; obtain ⟨Ao9, co9, eo9⟩ := Kd.R_slice HO260.out; subst eo9) | ((with_reducible refine gate_callee (f := 29) rfl ?_); refine goesL_ (some 13) rfl rfl Try.func29 (by kernel_rfl) rfl #[.pointer (some ⟨g253, 0, none⟩), .slice Ao9 y258.length co9] rfl (by (try simp only [List.map_toArray, List.map_cons, List.map_nil]); first | done | rfl | (simp only [List.length_drop, List.length_take]; rfl)) ?_; (with_reducible refine (spec_reader_one.calls k g253 t251 t257 _ _ y258 t261 t262 w _ ?side1 ?side2 ?side3 ?side4 ?side5 A4.out).mono ?_); (case side1 => repeat (first | (with_reducible first | exact HI253.out | apply IsS56.alloc | apply IsS56.drewN | apply IsS56.drew | apply IsS56.set_1) | exact HI253.out)); (case side2 => repeat (first | (with_reducible first | exact HB.out | apply below_alloc | apply pw_below_drewN | apply below_drew1 | refine below_set ?_ (IsS56.ge HI253.out)) | exact HB.out)); (case side3 => repeat (first | exact (Kd.R_reads' HO260.out).2.2 | (with_reducible refine Kd.C_alloc ?_ _) | (with_reducible refine Kd.C_drewN ?_ _) | (with_reducible refine Kd.C_drew ?_))); (case side4 => exact (Kd.R_reads' HO260.out).2.1); (case side5 => exact far_slice (IsS56.own_ne HI253.out HO260.out (by decide))); rintro e w10 ⟨rfl, hi, hb, hk⟩; refine ⟨_, rfl, ?_⟩; have n0_ := Aside0.mk (Kd.R_mono (Kd.R_keep (IsS56.apart (show IsS56 w _ g253 t251 t257 from by repeat (first | (with_reducible first | exact HI253.out | apply IsS56.alloc | apply IsS56.drewN | apply IsS56.drew | apply IsS56.set_1) | exact HI253.out)) (by (with_reducible repeat (first | apply Kd.R_alloc | apply Kd.R_drewN | apply Kd.R_drew)); exact HO256.out) (by decide)) hk (fun _ h => h.2)) (fun _ h => h.1)); have n1_ := Aside0.mk (Kd.R_mono (Kd.R_keep (IsS56.apart (show IsS56 w _ g253 t251 t257 from by repeat (first | (with_reducible first | exact HI253.out | apply IsS56.alloc | apply IsS56.drewN | apply IsS56.drew | apply IsS56.set_1) | exact HI253.out)) (by (with_reducible repeat (first | apply Kd.R_alloc | apply Kd.R_drewN | apply Kd.R_drew)); exact HO260.out) (by decide)) hk (fun _ h => h.2)) (fun _ h => h.1)); have n2_ := Aside0.mk (hb); have n3_ := Aside0.mk (hi); clear HO256; clear HO260; clear HB; clear HI253; have HO256 := n0_; have HO260 := n1_; have HB := n2_; have HI253 := n3_; clear n0_ n1_ n2_ n3_; (try clear hb); (try clear hb2); (try clear hk); (try clear hi)))
  go_ret2
  exact ⟨_, by first | rfl | (simp [errW_none, errW_some] <;> rfl) | (simp [*, errW_none, errW_some] <;> rfl), by (with_reducible repeat (first | apply Kd.R_alloc | apply Kd.R_drewN | apply Kd.R_drew)); exact HO256.out, by repeat (first | (with_reducible first | exact HB.out | apply below_alloc | apply pw_below_drewN | apply below_drew1 | refine below_set ?_ (IsS56.ge HI253.out)) | exact HB.out)⟩

/-! ### spec_ServeUser: function 18 -/
def spec_ServeUser.f (k : Nat) (l0 : List (S27)) (a1 : Int) : Option ((List (S27)) × Int × Bool) := (spec_validUsers.f k l0).bind fun t263 => (if t263 = true then ((spec_inRange.f a1 1 20).bind fun t264 => (if t264 = true then ((spec_next.f k l0).bind fun t265 => (if t265 < 0 then (some (([] : List (S27)), (-1), false)) else ((spec_next.f k l0).bind fun t266 => ((some (([] : List (S27)) : List (S27))).bind fun y267 => (if y267.length + l0.length < 5864062014805 then ((some (y267 ++ l0 : List (S27))).bind fun y270 => (if 0 ≤ t266 then (if t266 < (y270.length : Int) then ((some (y270.set (t266 : Int).toNat (⟨(rd_T27 y270 t266).f0, mn (wrap64 (((rd_T27 y270 t266).f1) + a1)) 10000, (rd_T27 y270 t266).f2⟩ : S27) : List (S27))).bind fun y274 => (some ((y274.set (t266 : Int).toNat (⟨(rd_T27 y274 t266).f0, (rd_T27 y274 t266).f1, wrap64 (((rd_T27 y274 t266).f2) - 1)⟩ : S27)), t266, true))) else (none)) else (none))) else (none)))))) else (some (([] : List (S27)), (-1), false)))) else (some (([] : List (S27)), (-1), false)))
theorem spec_ServeUser.mono : ∀ a0 a1 k, LeO (spec_ServeUser.f k a0 a1) (spec_ServeUser.f (k + 1) a0 a1) := by
  intro a0 a1 k
  unfold spec_ServeUser.f
  repeat' first
      | (with_reducible exact spec_next.mono _ _)
      | (with_reducible exact spec_validUsers.mono _ _)
      | (with_reducible exact LeO.refl _)
      | (with_reducible exact LeO.none _)
      | (with_reducible refine LeO.ite ?_ ?_)
      | (with_reducible refine LeO.bind ?_ (fun _ => ?_))
      | exact spec_next.mono _ _
      | exact spec_validUsers.mono _ _
      | exact LeO.none _
      | refine LeO.ite ?_ ?_
      | refine LeO.bind ?_ (fun _ => ?_)
set_option maxHeartbeats 8000000 in
set_option maxRecDepth 100000 in
theorem spec_ServeUser.calls (k : Nat) (A0 : Option Addr) (c0 : Nat) (l0 : List (S27)) (a1 : Int) (r1 : List (S27)) (r2 : Int) (r3 : Bool) (w : World) (hr0 : Kd.C k27 w A0 l0.length l0) (hc0 : l0.length ≤ c0) (h : spec_ServeUser.f k l0 a1 = some (r1, r2, r3)) :
    Calls Try.prog 18 #[.slice A0 l0.length c0, .int .i64 a1] w fun e w' => ∃ v0_ : Value, e = .returned (.tuple #[v0_, .int .i64 r2, .bool r3]) ∧ Kd.R k27 27 w' w.heap.size (fun _ => True) v0_ r1 ∧ Below w.heap.size w w' := by
  have HR0 := Aside0.mk hr0
  have HC0 := Aside0.mk hc0
  clear hr0 hc0
  have HB := Aside0.mk (Below.refl w.heap.size w)
  have H : ((spec_validUsers.f k l0).bind fun t263 => (if t263 = true then ((spec_inRange.f a1 1 20).bind fun t264 => (if t264 = true then ((spec_next.f k l0).bind fun t265 => (if t265 < 0 then (some (([] : List (S27)), (-1), false)) else ((spec_next.f k l0).bind fun t266 => ((some (([] : List (S27)) : List (S27))).bind fun y267 => (if y267.length + l0.length < 5864062014805 then ((some (y267 ++ l0 : List (S27))).bind fun y270 => (if 0 ≤ t266 then (if t266 < (y270.length : Int) then ((some (y270.set (t266 : Int).toNat (⟨(rd_T27 y270 t266).f0, mn (wrap64 (((rd_T27 y270 t266).f1) + a1)) 10000, (rd_T27 y270 t266).f2⟩ : S27) : List (S27))).bind fun y274 => (some ((y274.set (t266 : Int).toNat (⟨(rd_T27 y274 t266).f0, (rd_T27 y274 t266).f1, wrap64 (((rd_T27 y274 t266).f2) - 1)⟩ : S27)), t266, true))) else (none)) else (none))) else (none)))))) else (some (([] : List (S27)), (-1), false)))) else (some (([] : List (S27)), (-1), false)))) = some (r1, r2, r3) := h
  clear h
  replace H := Option.bind_eq_some_iff.mp H
  obtain ⟨t263, A30, H⟩ := H
  replace H : (if t263 = true then ((spec_inRange.f a1 1 20).bind fun t264 => (if t264 = true then ((spec_next.f k l0).bind fun t265 => (if t265 < 0 then (some (([] : List (S27)), (-1), false)) else ((spec_next.f k l0).bind fun t266 => ((some (([] : List (S27)) : List (S27))).bind fun y267 => (if y267.length + l0.length < 5864062014805 then ((some (y267 ++ l0 : List (S27))).bind fun y270 => (if 0 ≤ t266 then (if t266 < (y270.length : Int) then ((some (y270.set (t266 : Int).toNat (⟨(rd_T27 y270 t266).f0, mn (wrap64 (((rd_T27 y270 t266).f1) + a1)) 10000, (rd_T27 y270 t266).f2⟩ : S27) : List (S27))).bind fun y274 => (some ((y274.set (t266 : Int).toNat (⟨(rd_T27 y274 t266).f0, (rd_T27 y274 t266).f1, wrap64 (((rd_T27 y274 t266).f2) - 1)⟩ : S27)), t266, true))) else (none)) else (none))) else (none)))))) else (some (([] : List (S27)), (-1), false)))) else (some (([] : List (S27)), (-1), false))) = some (r1, r2, r3) := H
  have A3 := Aside0.mk A30
  clear A30
  by_cases c4 : t263 = true
  · subst c4
    have H1 : ((spec_inRange.f a1 1 20).bind fun t264 => (if t264 = true then ((spec_next.f k l0).bind fun t265 => (if t265 < 0 then (some (([] : List (S27)), (-1), false)) else ((spec_next.f k l0).bind fun t266 => ((some (([] : List (S27)) : List (S27))).bind fun y267 => (if y267.length + l0.length < 5864062014805 then ((some (y267 ++ l0 : List (S27))).bind fun y270 => (if 0 ≤ t266 then (if t266 < (y270.length : Int) then ((some (y270.set (t266 : Int).toNat (⟨(rd_T27 y270 t266).f0, mn (wrap64 (((rd_T27 y270 t266).f1) + a1)) 10000, (rd_T27 y270 t266).f2⟩ : S27) : List (S27))).bind fun y274 => (some ((y274.set (t266 : Int).toNat (⟨(rd_T27 y274 t266).f0, (rd_T27 y274 t266).f1, wrap64 (((rd_T27 y274 t266).f2) - 1)⟩ : S27)), t266, true))) else (none)) else (none))) else (none)))))) else (some (([] : List (S27)), (-1), false)))) = some (r1, r2, r3) := by rw [if_pos rfl] at H; exact H
    clear H
    have H := H1
    clear H1
    replace H := Option.bind_eq_some_iff.mp H
    obtain ⟨t264, A50, H⟩ := H
    replace H : (if t264 = true then ((spec_next.f k l0).bind fun t265 => (if t265 < 0 then (some (([] : List (S27)), (-1), false)) else ((spec_next.f k l0).bind fun t266 => ((some (([] : List (S27)) : List (S27))).bind fun y267 => (if y267.length + l0.length < 5864062014805 then ((some (y267 ++ l0 : List (S27))).bind fun y270 => (if 0 ≤ t266 then (if t266 < (y270.length : Int) then ((some (y270.set (t266 : Int).toNat (⟨(rd_T27 y270 t266).f0, mn (wrap64 (((rd_T27 y270 t266).f1) + a1)) 10000, (rd_T27 y270 t266).f2⟩ : S27) : List (S27))).bind fun y274 => (some ((y274.set (t266 : Int).toNat (⟨(rd_T27 y274 t266).f0, (rd_T27 y274 t266).f1, wrap64 (((rd_T27 y274 t266).f2) - 1)⟩ : S27)), t266, true))) else (none)) else (none))) else (none)))))) else (some (([] : List (S27)), (-1), false))) = some (r1, r2, r3) := H
    have A5 := Aside0.mk A50
    clear A50
    by_cases c6 : t264 = true
    · subst c6
      have H1 : ((spec_next.f k l0).bind fun t265 => (if t265 < 0 then (some (([] : List (S27)), (-1), false)) else ((spec_next.f k l0).bind fun t266 => ((some (([] : List (S27)) : List (S27))).bind fun y267 => (if y267.length + l0.length < 5864062014805 then ((some (y267 ++ l0 : List (S27))).bind fun y270 => (if 0 ≤ t266 then (if t266 < (y270.length : Int) then ((some (y270.set (t266 : Int).toNat (⟨(rd_T27 y270 t266).f0, mn (wrap64 (((rd_T27 y270 t266).f1) + a1)) 10000, (rd_T27 y270 t266).f2⟩ : S27) : List (S27))).bind fun y274 => (some ((y274.set (t266 : Int).toNat (⟨(rd_T27 y274 t266).f0, (rd_T27 y274 t266).f1, wrap64 (((rd_T27 y274 t266).f2) - 1)⟩ : S27)), t266, true))) else (none)) else (none))) else (none)))))) = some (r1, r2, r3) := by rw [if_pos rfl] at H; exact H
      clear H
      have H := H1
      clear H1
      replace H := Option.bind_eq_some_iff.mp H
      obtain ⟨t265, A70, H⟩ := H
      replace H : (if t265 < 0 then (some (([] : List (S27)), (-1), false)) else ((spec_next.f k l0).bind fun t266 => ((some (([] : List (S27)) : List (S27))).bind fun y267 => (if y267.length + l0.length < 5864062014805 then ((some (y267 ++ l0 : List (S27))).bind fun y270 => (if 0 ≤ t266 then (if t266 < (y270.length : Int) then ((some (y270.set (t266 : Int).toNat (⟨(rd_T27 y270 t266).f0, mn (wrap64 (((rd_T27 y270 t266).f1) + a1)) 10000, (rd_T27 y270 t266).f2⟩ : S27) : List (S27))).bind fun y274 => (some ((y274.set (t266 : Int).toNat (⟨(rd_T27 y274 t266).f0, (rd_T27 y274 t266).f1, wrap64 (((rd_T27 y274 t266).f2) - 1)⟩ : S27)), t266, true))) else (none)) else (none))) else (none))))) = some (r1, r2, r3) := H
      have A7 := Aside0.mk A70
      clear A70
      by_cases c8 : t265 < 0
      · rw [if_pos c8] at H
        have c8b0 : decide (t265 < 0) = true := decide_eq_true c8
        clear c8
        simp only [Option.some.injEq, Prod.mk.injEq] at H
        obtain ⟨rfl, rfl, rfl⟩ := H
        go_enter Try.func18, Try.ntmps18
        go_wp2_with (first | ((with_reducible refine gate_callee (f := 24) rfl ?_); refine goesL_ (some 10) rfl rfl Try.func24 (by kernel_rfl) rfl #[.slice A0 l0.length c0] rfl (by (try simp only [List.map_toArray, List.map_cons, List.map_nil]); first | done | rfl | (simp only [List.length_drop, List.length_take]; rfl)) ?_; (with_reducible refine (spec_validUsers.calls k _ _ l0 true _ ?side1 ?side2 A3.out).mono ?_); (case side1 => repeat (first | exact HR0.out | (with_reducible refine Kd.C_alloc ?_ _) | (with_reducible refine Kd.C_drewN ?_ _) | (with_reducible refine Kd.C_drew ?_))); (case side2 => exact HC0.out); rintro e w' ⟨rfl, ⟨nd, rfl⟩⟩; refine ⟨_, rfl, ?_⟩) | (go_at_call 32; (with_reducible refine (spec_inRange.calls a1 1 20 true _ A5.out).mono ?_); rintro e w' ⟨rfl, ⟨nd, rfl⟩⟩) | (go_at_call 25; (with_reducible refine (spec_next.calls k _ _ l0 t265 _ ?side1 ?side2 A7.out).mono ?_); (case side1 => repeat (first | exact HR0.out | (with_reducible refine Kd.C_alloc ?_ _) | (with_reducible refine Kd.C_drewN ?_ _) | (with_reducible refine Kd.C_drew ?_))); (case side2 => exact HC0.out); rintro e w9 ⟨rfl, hb⟩; have n0_ := Aside0.mk (below_step (by repeat (first | (with_reducible first | exact HB.out | apply below_alloc | apply pw_below_drewN | apply below_drew1) | exact HB.out)) hb); clear HB; have HB := n0_; clear n0_; (try clear hb); (try clear hb2); (try clear hk); (try clear hi)))
        go_ret3
        exact ⟨_, by first | rfl | (simp [errW_none, errW_some] <;> rfl) | (simp [*, errW_none, errW_some] <;> rfl), by first | exact Kd.R_nil _ _ _ _ _ | exact Kd.N_nil _ _ _ _ _ | exact Kd.V_nil _ _ _ _ _ | exact Kd.Q_nil _ _ _ _ _ | exact Kd.S_nil _ _ _ _ _, by repeat (first | (with_reducible first | exact HB.out | apply below_alloc | apply pw_below_drewN | apply below_drew1) | exact HB.out)⟩
      · rw [if_neg c8] at H
        have c8b0 : decide (t265 < 0) = false := decide_eq_false c8
        clear c8
        replace H := Option.bind_eq_some_iff.mp H
        obtain ⟨t266, A100, H⟩ := H
        replace H : ((some (([] : List (S27)) : List (S27))).bind fun y267 => (if y267.length + l0.length < 5864062014805 then ((some (y267 ++ l0 : List (S27))).bind fun y270 => (if 0 ≤ t266 then (if t266 < (y270.length : Int) then ((some (y270.set (t266 : Int).toNat (⟨(rd_T27 y270 t266).f0, mn (wrap64 (((rd_T27 y270 t266).f1) + a1)) 10000, (rd_T27 y270 t266).f2⟩ : S27) : List (S27))).bind fun y274 => (some ((y274.set (t266 : Int).toNat (⟨(rd_T27 y274 t266).f0, (rd_T27 y274 t266).f1, wrap64 (((rd_T27 y274 t266).f2) - 1)⟩ : S27)), t266, true))) else (none)) else (none))) else (none))) = some (r1, r2, r3) := H
        have A10 := Aside0.mk A100
        clear A100
        obtain ⟨y267, hy267⟩ : ∃ y_ : List (S27), y_ = (([] : List (S27))) := ⟨_, rfl⟩
        replace H : (if y267.length + l0.length < 5864062014805 then ((some (y267 ++ l0 : List (S27))).bind fun y270 => (if 0 ≤ t266 then (if t266 < (y270.length : Int) then ((some (y270.set (t266 : Int).toNat (⟨(rd_T27 y270 t266).f0, mn (wrap64 (((rd_T27 y270 t266).f1) + a1)) 10000, (rd_T27 y270 t266).f2⟩ : S27) : List (S27))).bind fun y274 => (some ((y274.set (t266 : Int).toNat (⟨(rd_T27 y274 t266).f0, (rd_T27 y274 t266).f1, wrap64 (((rd_T27 y274 t266).f2) - 1)⟩ : S27)), t266, true))) else (none)) else (none))) else (none)) = some (r1, r2, r3) := by first | (rw [hy267]; with_reducible exact H) | (have H2_ := (Option.bind_some _ _).symm.trans H; rw [hy267]; with_reducible exact H2_) | (have H2_ := (Option.bind_some _ _).symm.trans H; with_reducible exact H2_) | with_reducible exact H | (rw [hy267]; exact H) | exact H
        have Ny267 := Aside0.mk hy267
        clear hy267
        by_cases c11 : y267.length + l0.length < 5864062014805
        · rw [if_pos c11] at H
          have LMc11 := Aside0.mk c11
          clear c11
          obtain ⟨y270, hy270⟩ : ∃ y_ : List (S27), y_ = (y267 ++ l0) := ⟨_, rfl⟩
          replace H : (if 0 ≤ t266 then (if t266 < (y270.length : Int) then ((some (y270.set (t266 : Int).toNat (⟨(rd_T27 y270 t266).f0, mn (wrap64 (((rd_T27 y270 t266).f1) + a1)) 10000, (rd_T27 y270 t266).f2⟩ : S27) : List (S27))).bind fun y274 => (some ((y274.set (t266 : Int).toNat (⟨(rd_T27 y274 t266).f0, (rd_T27 y274 t266).f1, wrap64 (((rd_T27 y274 t266).f2) - 1)⟩ : S27)), t266, true))) else (none)) else (none)) = some (r1, r2, r3) := by first | (rw [hy270]; with_reducible exact H) | (have H2_ := (Option.bind_some _ _).symm.trans H; rw [hy270]; with_reducible exact H2_) | (have H2_ := (Option.bind_some _ _).symm.trans H; with_reducible exact H2_) | with_reducible exact H | (rw [hy270]; exact H) | exact H
          have Ny270 := Aside0.mk hy270
          clear hy270
          by_cases c12 : 0 ≤ t266
          · rw [if_pos c12] at H
            have c12b0 : decide (0 ≤ t266) = true := decide_eq_true c12
            clear c12
            by_cases c13 : t266 < (y270.length : Int)
            · rw [if_pos c13] at H
              have c13b0 : decide (t266 < (y270.length : Int)) = true := decide_eq_true c13
              clear c13
              obtain ⟨ji14, hji14⟩ : ∃ j_ : Int, (mn (wrap64 (((rd_T27 y270 t266).f1) + a1)) 10000) = j_ := ⟨_, rfl⟩
              replace H : ((some (y270.set (t266 : Int).toNat (⟨(rd_T27 y270 t266).f0, ji14, (rd_T27 y270 t266).f2⟩ : S27) : List (S27))).bind fun y274 => (some ((y274.set (t266 : Int).toNat (⟨(rd_T27 y274 t266).f0, (rd_T27 y274 t266).f1, wrap64 (((rd_T27 y274 t266).f2) - 1)⟩ : S27)), t266, true))) = some (r1, r2, r3) := by first | (rw [hji14] at H; exact H) | (simp only [hji14] at H ⊢; exact H)
              (try rw [hji14] at A3)
              (try rw [hji14] at A5)
              (try rw [hji14] at A7)
              (try rw [hji14] at A10)
              (try (have hji14h : ji14 ≤ 10000 := by (rw [← hji14]; unfold mn; (repeat' split) <;> omega)))
              (try (have hji14g : ji14 ≤ 64 := by omega))
              have hji14_ : (if 10000 < (wrap64 (((rd_T27 y270 t266).f1) + a1)) then 10000 else (wrap64 (((rd_T27 y270 t266).f1) + a1))) = ji14 := hji14
              obtain ⟨y274, hy274⟩ : ∃ y_ : List (S27), y_ = (y270.set (t266 : Int).toNat (⟨(rd_T27 y270 t266).f0, ji14, (rd_T27 y270 t266).f2⟩ : S27)) := ⟨_, rfl⟩
              replace H : (some ((y274.set (t266 : Int).toNat (⟨(rd_T27 y274 t266).f0, (rd_T27 y274 t266).f1, wrap64 (((rd_T27 y274 t266).f2) - 1)⟩ : S27)), t266, true)) = some (r1, r2, r3) := by first | (rw [hy274]; with_reducible exact H) | (have H2_ := (Option.bind_some _ _).symm.trans H; rw [hy274]; with_reducible exact H2_) | (have H2_ := (Option.bind_some _ _).symm.trans H; with_reducible exact H2_) | with_reducible exact H | (rw [hy274]; exact H) | exact H
              have Ny274 := Aside0.mk hy274
              clear hy274
              obtain ⟨y276, hy276⟩ : ∃ y_ : List (S27), y_ = (y274.set (t266 : Int).toNat (⟨(rd_T27 y274 t266).f0, (rd_T27 y274 t266).f1, wrap64 (((rd_T27 y274 t266).f2) - 1)⟩ : S27)) := ⟨_, rfl⟩
              replace H : (some (y276, t266, true)) = some (r1, r2, r3) := by first | (rw [hy276]; with_reducible exact H) | (have H2_ := (Option.bind_some _ _).symm.trans H; rw [hy276]; with_reducible exact H2_) | (have H2_ := (Option.bind_some _ _).symm.trans H; with_reducible exact H2_) | with_reducible exact H | (rw [hy276]; exact H) | exact H
              have Ny276 := Aside0.mk hy276
              clear hy276
              simp only [Option.some.injEq, Prod.mk.injEq] at H
              obtain ⟨rfl, rfl, rfl⟩ := H
              go_enter Try.func18, Try.ntmps18
              go_wp2_with (first | ((with_reducible refine gate_callee (f := 24) rfl ?_); refine goesL_ (some 10) rfl rfl Try.func24 (by kernel_rfl) rfl #[.slice A0 l0.length c0] rfl (by (try simp only [List.map_toArray, List.map_cons, List.map_nil]); first | done | rfl | (simp only [List.length_drop, List.length_take]; rfl)) ?_; (with_reducible refine (spec_validUsers.calls k _ _ l0 true _ ?side1 ?side2 A3.out).mono ?_); (case side1 => repeat (first | exact HR0.out | (with_reducible refine Kd.C_alloc ?_ _) | (with_reducible refine Kd.C_drewN ?_ _) | (with_reducible refine Kd.C_drew ?_))); (case side2 => exact HC0.out); rintro e w' ⟨rfl, ⟨nd, rfl⟩⟩; refine ⟨_, rfl, ?_⟩) | (go_at_call 32; (with_reducible refine (spec_inRange.calls a1 1 20 true _ A5.out).mono ?_); rintro e w' ⟨rfl, ⟨nd, rfl⟩⟩) | (go_at_call 25; (with_reducible refine (spec_next.calls k _ _ l0 t265 _ ?side1 ?side2 A7.out).mono ?_); (case side1 => repeat (first | exact HR0.out | (with_reducible refine Kd.C_alloc ?_ _) | (with_reducible refine Kd.C_drewN ?_ _) | (with_reducible refine Kd.C_drew ?_))); (case side2 => exact HC0.out); rintro e w17 ⟨rfl, hb⟩; have n0_ := Aside0.mk (below_step (by repeat (first | (with_reducible first | exact HB.out | apply below_alloc | apply pw_below_drewN | apply below_drew1) | exact HB.out)) hb); clear HB; have HB := n0_; clear n0_; (try clear hb); (try clear hb2); (try clear hk); (try clear hi)) | ((with_reducible refine gate_callee (f := 25) rfl ?_); refine goesL_ (some 23) rfl rfl Try.func25 (by kernel_rfl) rfl #[.slice A0 l0.length c0] rfl (by (try simp only [List.map_toArray, List.map_cons, List.map_nil]); first | done | rfl | (simp only [List.length_drop, List.length_take]; rfl)) ?_; (with_reducible refine (spec_next.calls k _ _ l0 t266 _ ?side1 ?side2 A10.out).mono ?_); (case side1 => repeat (first | exact (Kd.C_below HR0.out HB.out) | (with_reducible refine Kd.C_alloc ?_ _) | (with_reducible refine Kd.C_drewN ?_ _) | (with_reducible refine Kd.C_drew ?_))); (case side2 => exact HC0.out); rintro e w18 ⟨rfl, hb⟩; refine ⟨_, rfl, ?_⟩; have n0_ := Aside0.mk (below_step (by repeat (first | (with_reducible first | exact HB.out | apply below_alloc | apply pw_below_drewN | apply below_drew1) | exact HB.out)) hb); clear HB; have HB := n0_; clear n0_; (try clear hb); (try clear hb2); (try clear hk); (try clear hi)) | ((with_reducible refine gate_dst (N := 24) rfl ?_); refine Kd.R_lit k27 _ 27 ?hg (N := 24) ?hd (xs := ([] : List (S27))) (inner := []) (ok := fun _ => True) (okp := fun _ => True) ?hr ?hp (fun _ hk => hk) trivial (Below.refl _ _) (Nat.le_refl _) (by simp) ?_; (case hd => rfl); (case hg => rfl); (case hr => first | (go_simp; done) | (go_simp; rfl)); (case hp => exact (Reps.none _ _)); intro v268 w19 ho20 hb hg_ hnew_; clear hg_ hnew_; (first | rw [← Ny267.out] at ho20 | (simp only [Int.reduceToNat] at ho20; rw [← Ny267.out] at ho20)); have n0_ := Aside0.mk (Kd.R_lower ho20 (below_size (by repeat (first | (with_reducible first | exact HB.out | apply below_alloc | apply pw_below_drewN | apply below_drew1) | exact HB.out)))); have n1_ := Aside0.mk (below_step (by repeat (first | (with_reducible first | exact HB.out | apply below_alloc | apply pw_below_drewN | apply below_drew1) | exact HB.out)) hb); clear HB; have HO269 := n0_; have HB := n1_; clear n0_ n1_; clear hb ho20) | ((with_reducible refine gate_builtin (b := .append) (xs := #[.tmp 24, .tmp 25]) rfl ?_); at_builtin; refine Kd.R_append_rows k27 (w0 := w) w.heap.size rfl (.tmp 24) (.tmp 25) 23 27 (.agg #[(.int .i64 0), (.int .i64 0), (.int .i64 0)]) 24 rfl Try.underlying23 info27 rfl (by decide) (by omega) v268 y267 l0 _ _ _ (fun _ => True) (fun _ => False) rfl rfl ?aO ?aR (fun _ _ h => h) (fun _ h => h.elim) ?aF ?aB ?aS ?aL ?_; (case aR => repeat (first | exact (Kd.C_below HR0.out HB.out) | (with_reducible refine Kd.C_alloc ?_ _) | (with_reducible refine Kd.C_drewN ?_ _) | (with_reducible refine Kd.C_drew ?_))); (case aB => exact (by repeat (first | (with_reducible first | exact HB.out | apply below_alloc | apply pw_below_drewN | apply below_drew1) | exact HB.out))); (case aF => exact (fun _ _ => trivial)); (case aO => exact (by (with_reducible repeat (first | apply Kd.R_alloc | apply Kd.R_drewN | apply Kd.R_drew)); exact HO269.out)); (case aS => exact (below_size (by repeat (first | (with_reducible first | exact HB.out | apply below_alloc | apply pw_below_drewN | apply below_drew1) | exact HB.out)))); (case aL => have := LMc11.out; omega); intro v271 w21 ho hb hg hat; rw [← Ny270.out] at ho; have n0_ := Aside0.mk (hb); have n1_ := Aside0.mk (ho); clear HB; clear HO269; have HB := n0_; have HO272 := n1_; clear n0_ n1_; clear ho hb hg hat; obtain ⟨Ao22, co22, eo22⟩ := Kd.R_slice HO272.out; subst eo22; have p273 : 0 ≤ (t266 : Int) := of_decide_eq_true (by first | (with_reducible assumption) | assumption); have q273 : t266 < (y270.length : Int) := of_decide_eq_true (by first | (with_reducible assumption) | assumption); obtain ⟨ad273, e273, hx273_0, hx273_1, hx273_2⟩ := at_T27 (Kd.R_reads' HO272.out).2.2 t266 p273 q273; cases e273; replace p273 := eq_true p273; replace q273 := eq_true q273; have p15 : 0 ≤ (t266 : Int) := of_decide_eq_true (by first | (with_reducible assumption) | assumption); have q15 : (t266 : Int) < ((y270.length : Int) : Int) := of_decide_eq_true (by first | (with_reducible assumption) | assumption); obtain ⟨go15, co15, eo15, gb15, gl15, cl15, HG15⟩ := Kd.R_form HO272.out (by omega); (first | cases eo15 | (injection eo15 with ea_ en_ ec_; (first | subst ea_ | (injection ea_ with ea_; subst ea_)); subst ec_; clear en_)); have GB15 := Aside0.mk gb15; have GG15 := Aside0.mk HG15; clear gb15 gl15 HG15; (first | simp only [add_plain] at hx273_0 | skip); (first | simp only [add_plain] at hx273_1 | skip); (first | simp only [add_plain] at hx273_2 | skip); obtain ⟨ce15, hcl15, hM15, hcc15, hfr15⟩ := Kd.R_elem HO272.out z27 (t266 : Int) p15 q15; obtain rfl := k27_openM hM15; have hx15_0 : w21.cell? ⟨go15, (t266 : Int).toNat * 3, none⟩ = some (.int .i64 ((rd_T27 y270 t266).f0)) := hcc15 0 _ rfl; have hx15_1 : w21.cell? ⟨go15, (t266 : Int).toNat * 3 + 1, none⟩ = some (.int .i64 ((rd_T27 y270 t266).f1)) := hcc15 1 _ rfl; have hx15_2 : w21.cell? ⟨go15, (t266 : Int).toNat * 3 + 2, none⟩ = some (.int .i64 ((rd_T27 y270 t266).f2)) := hcc15 2 _ rfl; have hf15_0 : w21.frozen? ⟨go15, (t266 : Int).toNat * 3, none⟩ = false := hfr15 0; have hf15_1 : w21.frozen? ⟨go15, (t266 : Int).toNat * 3 + 1, none⟩ = false := hfr15 1; have hf15_2 : w21.frozen? ⟨go15, (t266 : Int).toNat * 3 + 2, none⟩ = false := hfr15 2; clear hcl15 hcc15 hfr15 hM15; replace p15 := eq_true p15; replace q15 := eq_true q15; have HX23 := Aside0.mk (show Kd.R k27 27 w21 w.heap.size (fun _ => True) (.slice (some ⟨go15, 0, none⟩) y270.length co22) y270 from (by (with_reducible repeat (first | apply Kd.R_alloc | apply Kd.R_drewN | apply Kd.R_drew)); exact HO272.out)); obtain ⟨ce23, hcl23, hM23, hcc23, hfr23⟩ := Kd.R_elem HX23.out z27 (t266 : Int) (of_decide_eq_true (by first | (with_reducible assumption) | assumption)) (by have h_ : (t266 : Int) < ((y270.length : Int) : Int) := of_decide_eq_true (by first | (with_reducible assumption) | assumption); first | exact h_ | (have e_ := (Kd.R_reads' HO272.out).1; omega) | simpa using h_); obtain rfl := k27_openM hM23; have HP23 := Kd.R_seg HX23.out (t266 : Int) (of_decide_eq_true (by first | (with_reducible assumption) | assumption)) (by have h_ : (t266 : Int) < ((y270.length : Int) : Int) := of_decide_eq_true (by first | (with_reducible assumption) | assumption); first | exact h_ | (have e_ := (Kd.R_reads' HO272.out).1; omega) | simpa using h_) (seg := [.int .i64 ji14]) (j := 1) hcl23 hcc23 (show 2 ≤ 3 from by decide) (x' := (⟨(rd_T27 y270 t266).f0, ji14, (rd_T27 y270 t266).f2⟩ : S27)) (k27_mkM _ _ _ (⟨(rd_T27 y270 t266).f0, ji14, (rd_T27 y270 t266).f2⟩ : S27) ) (fun _ hk => hk); have hx23_1 := hcc23 1 _ rfl; (try simp only [show (k27).sz = 3 from rfl, Nat.mul_one, Nat.add_zero] at hx23_1); have hf23_1 := hfr23 1; (try simp only [show (k27).sz = 3 from rfl, Nat.mul_one, Nat.add_zero] at hf23_1); clear hcl23 hcc23 hfr23 hM23) | ((with_reducible refine gate_store (t := 3) (p := 38) rfl ?_); refine store_event (t := 3) (p := 38) (v := ?vo_w24) (w1 := (w21.setCell ⟨go15, (t266 : Int).toNat * 3 + 1, none⟩ (.int .i64 ji14))) ?hg ?ho ?hn ?hr ?_; (case ho => rfl); (case hg => rfl); (case hn => rfl); (case hr => first | (go_simp; done) | (go_simp; rfl)); intro w24 hw; have hg : w21.grownBy w24 (some go15) := (by rw [hw]; exact HP23.2); have hp_ : Kd.R k27 27 w24 w.heap.size (fun _ => True) (.slice (some ⟨go15, 0, none⟩) y270.length co22) y274 := (by rw [hw, Ny274.out]; exact HP23.1); clear HP23; have n0_ := Aside0.mk (hp_); have n1_ := Aside0.mk ((by rw [hw]; exact below_set (HB.out) GB15.out : Below w.heap.size w w24)); clear HO272; clear HB; have HO272 := n0_; have HB := n1_; clear n0_ n1_; clear hg hw hp_; have p275 : 0 ≤ (t266 : Int) := of_decide_eq_true (by first | (with_reducible assumption) | assumption); have q275 : t266 < (y274.length : Int) := (by have h_ : (t266 : Int) < ((y270.length : Int) : Int) := of_decide_eq_true (by first | (with_reducible assumption) | assumption); first | (have e_ := (Kd.R_reads' HO272.out).1; omega) | simpa only [Ny274.out, List.length_set] using h_); have ql275 : ((t266 : Int) < ((y270.length : Int) : Int)) = True := eq_true (of_decide_eq_true (by first | (with_reducible assumption) | assumption)); obtain ⟨ad275, e275, hx275_0, hx275_1, hx275_2⟩ := at_T27 (Kd.R_reads' HO272.out).2.2 t266 p275 q275; obtain rfl : (⟨go15, 0, none⟩ : Addr) = ad275 := (by injection e275); (first | simp only [add_plain] at hx275_0 | simp only [add_at] at hx275_0 | simp only [Addr.add, Nat.zero_add] at hx275_0 | skip); (first | simp only [add_plain] at hx275_1 | simp only [add_at] at hx275_1 | simp only [Addr.add, Nat.zero_add] at hx275_1 | skip); (first | simp only [add_plain] at hx275_2 | simp only [add_at] at hx275_2 | simp only [Addr.add, Nat.zero_add] at hx275_2 | skip); replace p275 := eq_true p275; replace q275 := eq_true q275; have p16 : 0 ≤ (t266 : Int) := of_decide_eq_true (by first | (with_reducible assumption) | assumption); have q16 : (t266 : Int) < ((y270.length : Int) : Int) := of_decide_eq_true (by first | (with_reducible assumption) | assumption); obtain ⟨ce16, hcl16, hM16, hcc16, hfr16⟩ := Kd.R_elem HO272.out z27 (t266 : Int) p16 q16; obtain rfl := k27_openM hM16; have hx16_0 : w24.cell? ⟨go15, (t266 : Int).toNat * 3, none⟩ = some (.int .i64 ((rd_T27 y274 t266).f0)) := hcc16 0 _ rfl; have hx16_1 : w24.cell? ⟨go15, (t266 : Int).toNat * 3 + 1, none⟩ = some (.int .i64 ((rd_T27 y274 t266).f1)) := hcc16 1 _ rfl; have hx16_2 : w24.cell? ⟨go15, (t266 : Int).toNat * 3 + 2, none⟩ = some (.int .i64 ((rd_T27 y274 t266).f2)) := hcc16 2 _ rfl; have hf16_0 : w24.frozen? ⟨go15, (t266 : Int).toNat * 3, none⟩ = false := hfr16 0; have hf16_1 : w24.frozen? ⟨go15, (t266 : Int).toNat * 3 + 1, none⟩ = false := hfr16 1; have hf16_2 : w24.frozen? ⟨go15, (t266 : Int).toNat * 3 + 2, none⟩ = false := hfr16 2; clear hcl16 hcc16 hfr16 hM16; replace p16 := eq_true p16; replace q16 := eq_true q16; have HX25 := Aside0.mk (show Kd.R k27 27 w24 w.heap.size (fun _ => True) (.slice (some ⟨go15, 0, none⟩) y270.length co22) y274 from (by (with_reducible repeat (first | apply Kd.R_alloc | apply Kd.R_drewN | apply Kd.R_drew)); exact HO272.out)); obtain ⟨ce25, hcl25, hM25, hcc25, hfr25⟩ := Kd.R_elem HX25.out z27 (t266 : Int) (of_decide_eq_true (by first | (with_reducible assumption) | assumption)) (by have h_ : (t266 : Int) < ((y270.length : Int) : Int) := of_decide_eq_true (by first | (with_reducible assumption) | assumption); first | exact h_ | (have e_ := (Kd.R_reads' HO272.out).1; omega) | simpa using h_); obtain rfl := k27_openM hM25; have HP25 := Kd.R_seg HX25.out (t266 : Int) (of_decide_eq_true (by first | (with_reducible assumption) | assumption)) (by have h_ : (t266 : Int) < ((y270.length : Int) : Int) := of_decide_eq_true (by first | (with_reducible assumption) | assumption); first | exact h_ | (have e_ := (Kd.R_reads' HO272.out).1; omega) | simpa using h_) (seg := [.int .i64 (wrap64 (((rd_T27 y274 t266).f2) - 1))]) (j := 2) hcl25 hcc25 (show 3 ≤ 3 from by decide) (x' := (⟨(rd_T27 y274 t266).f0, (rd_T27 y274 t266).f1, wrap64 (((rd_T27 y274 t266).f2) - 1)⟩ : S27)) (k27_mkM _ _ _ (⟨(rd_T27 y274 t266).f0, (rd_T27 y274 t266).f1, wrap64 (((rd_T27 y274 t266).f2) - 1)⟩ : S27) ) (fun _ hk => hk); have hx25_2 := hcc25 2 _ rfl; (try simp only [show (k27).sz = 3 from rfl, Nat.mul_one, Nat.add_zero] at hx25_2); have hf25_2 := hfr25 2; (try simp only [show (k27).sz = 3 from rfl, Nat.mul_one, Nat.add_zero] at hf25_2); clear hcl25 hcc25 hfr25 hM25) | ((with_reducible refine gate_store (t := 3) (p := 48) rfl ?_); refine store_event (t := 3) (p := 48) (v := ?vo_w26) (w1 := (w24.setCell ⟨go15, (t266 : Int).toNat * 3 + 2, none⟩ (.int .i64 (wrap64 (((rd_T27 y274 t266).f2) - 1))))) ?hg ?ho ?hn ?hr ?_; (case ho => rfl); (case hg => rfl); (case hn => rfl); (case hr => first | (go_simp; done) | (go_simp; rfl)); intro w26 hw; have hg : w24.grownBy w26 (some go15) := (by rw [hw]; exact HP25.2); have hp_ : Kd.R k27 27 w26 w.heap.size (fun _ => True) (.slice (some ⟨go15, 0, none⟩) y270.length co22) y276 := (by rw [hw, Ny276.out]; exact HP25.1); clear HP25; have n0_ := Aside0.mk (hp_); have n1_ := Aside0.mk ((by rw [hw]; exact below_set (HB.out) GB15.out : Below w.heap.size w w26)); clear HO272; clear HB; have HO272 := n0_; have HB := n1_; clear n0_ n1_; clear hg hw hp_))
              go_ret3
              exact ⟨_, by first | rfl | (simp [errW_none, errW_some] <;> rfl) | (simp only [← hji14]; first | rfl | (simp [errW_none, errW_some] <;> rfl)) | (simp [*, errW_none, errW_some] <;> rfl), by (with_reducible repeat (first | apply Kd.R_alloc | apply Kd.R_drewN | apply Kd.R_drew)); exact HO272.out, by repeat (first | (with_reducible first | exact HB.out | apply below_alloc | apply pw_below_drewN | apply below_drew1) | exact HB.out)⟩
            · rw [if_neg c13] at H
              exact absurd H (by simp)
          · rw [if_neg c12] at H
            exact absurd H (by simp)
        · rw [if_neg c11] at H
          exact absurd H (by simp)
    · replace c6 := Bool.eq_false_iff.mpr c6
      subst c6
      have H1 : (some (([] : List (S27)), (-1), false)) = some (r1, r2, r3) := by rw [if_neg (show ¬ (false = true) by decide)] at H; exact H
      clear H
      have H := H1
      clear H1
      simp only [Option.some.injEq, Prod.mk.injEq] at H
      obtain ⟨rfl, rfl, rfl⟩ := H
      go_enter Try.func18, Try.ntmps18
      go_wp2_with (first | ((with_reducible refine gate_callee (f := 24) rfl ?_); refine goesL_ (some 10) rfl rfl Try.func24 (by kernel_rfl) rfl #[.slice A0 l0.length c0] rfl (by (try simp only [List.map_toArray, List.map_cons, List.map_nil]); first | done | rfl | (simp only [List.length_drop, List.length_take]; rfl)) ?_; (with_reducible refine (spec_validUsers.calls k _ _ l0 true _ ?side1 ?side2 A3.out).mono ?_); (case side1 => repeat (first | exact HR0.out | (with_reducible refine Kd.C_alloc ?_ _) | (with_reducible refine Kd.C_drewN ?_ _) | (with_reducible refine Kd.C_drew ?_))); (case side2 => exact HC0.out); rintro e w' ⟨rfl, ⟨nd, rfl⟩⟩; refine ⟨_, rfl, ?_⟩) | (go_at_call 32; (with_reducible refine (spec_inRange.calls a1 1 20 false _ A5.out).mono ?_); rintro e w' ⟨rfl, ⟨nd, rfl⟩⟩))
      go_ret3
      exact ⟨_, by first | rfl | (simp [errW_none, errW_some] <;> rfl) | (simp [*, errW_none, errW_some] <;> rfl), by first | exact Kd.R_nil _ _ _ _ _ | exact Kd.N_nil _ _ _ _ _ | exact Kd.V_nil _ _ _ _ _ | exact Kd.Q_nil _ _ _ _ _ | exact Kd.S_nil _ _ _ _ _, by repeat (first | (with_reducible first | exact HB.out | apply below_alloc | apply pw_below_drewN | apply below_drew1) | exact HB.out)⟩
  · replace c4 := Bool.eq_false_iff.mpr c4
    subst c4
    have H1 : (some (([] : List (S27)), (-1), false)) = some (r1, r2, r3) := by rw [if_neg (show ¬ (false = true) by decide)] at H; exact H
    clear H
    have H := H1
    clear H1
    simp only [Option.some.injEq, Prod.mk.injEq] at H
    obtain ⟨rfl, rfl, rfl⟩ := H
    go_enter Try.func18, Try.ntmps18
    go_wp2_with (first | ((with_reducible refine gate_callee (f := 24) rfl ?_); refine goesL_ (some 10) rfl rfl Try.func24 (by kernel_rfl) rfl #[.slice A0 l0.length c0] rfl (by (try simp only [List.map_toArray, List.map_cons, List.map_nil]); first | done | rfl | (simp only [List.length_drop, List.length_take]; rfl)) ?_; (with_reducible refine (spec_validUsers.calls k _ _ l0 false _ ?side1 ?side2 A3.out).mono ?_); (case side1 => repeat (first | exact HR0.out | (with_reducible refine Kd.C_alloc ?_ _) | (with_reducible refine Kd.C_drewN ?_ _) | (with_reducible refine Kd.C_drew ?_))); (case side2 => exact HC0.out); rintro e w' ⟨rfl, ⟨nd, rfl⟩⟩; refine ⟨_, rfl, ?_⟩))
    go_ret3
    exact ⟨_, by first | rfl | (simp [errW_none, errW_some] <;> rfl) | (simp [*, errW_none, errW_some] <;> rfl), by first | exact Kd.R_nil _ _ _ _ _ | exact Kd.N_nil _ _ _ _ _ | exact Kd.V_nil _ _ _ _ _ | exact Kd.Q_nil _ _ _ _ _ | exact Kd.S_nil _ _ _ _ _, by repeat (first | (with_reducible first | exact HB.out | apply below_alloc | apply pw_below_drewN | apply below_drew1) | exact HB.out)⟩

/-! ### laws_equalUsers: function 19 -/
def laws_equalUsers.l0 : Nat → List (S27) → List (S27) → Int → Option (Bool)
  | 0, _, _, _ => none
  | k + 1, x0, x1, x5 => if x5 < (x0.length : Int) then (if 0 ≤ x5 then (if x5 < (x1.length : Int) then (if (!(((rd_T27 x0 x5).f0) == ((rd_T27 x1 x5).f0)) || (!(((rd_T27 x0 x5).f1) == ((rd_T27 x1 x5).f1)) || (!(((rd_T27 x0 x5).f2) == ((rd_T27 x1 x5).f2))))) = true then (some false) else (laws_equalUsers.l0 k x0 x1 (wrap64 (x5 + 1)))) else (none)) else (none)) else (some true)
def laws_equalUsers.f (k : Nat) (l0 : List (S27)) (l1 : List (S27)) : Option (Bool) := if (l0.length : Int) = (l1.length : Int) then (laws_equalUsers.l0 k l0 l1 0) else (some false)
theorem laws_equalUsers.mono_l : ∀ k, (∀ y0 y1 y2, LeO (laws_equalUsers.l0 k y0 y1 y2) (laws_equalUsers.l0 (k + 1) y0 y1 y2))
  | 0 => fun _ _ _ r h => by simp [laws_equalUsers.l0] at h
  | k + 1 => by
    have ih0 := laws_equalUsers.mono_l k
    · intro y0 y1 y2
      unfold laws_equalUsers.l0
      repeat' first
      | (with_reducible exact ih0 _ _ _)
      | (with_reducible exact LeO.refl _)
      | (with_reducible exact LeO.none _)
      | (with_reducible refine LeO.ite ?_ ?_)
      | (with_reducible refine LeO.bind ?_ (fun _ => ?_))
      | exact ih0 _ _ _
      | exact LeO.none _
      | refine LeO.ite ?_ ?_
      | refine LeO.bind ?_ (fun _ => ?_)
theorem laws_equalUsers.mono : ∀ a0 a1 k, LeO (laws_equalUsers.f k a0 a1) (laws_equalUsers.f (k + 1) a0 a1) := by
  intro a0 a1 k
  have ih0 := laws_equalUsers.mono_l k
  unfold laws_equalUsers.f
  repeat' first
      | (with_reducible exact ih0 _ _ _)
      | (with_reducible exact LeO.refl _)
      | (with_reducible exact LeO.none _)
      | (with_reducible refine LeO.ite ?_ ?_)
      | (with_reducible refine LeO.bind ?_ (fun _ => ?_))
      | exact ih0 _ _ _
      | exact LeO.none _
      | refine LeO.ite ?_ ?_
      | refine LeO.bind ?_ (fun _ => ?_)
set_option maxHeartbeats 8000000 in
set_option maxRecDepth 100000 in
theorem laws_equalUsers.calls (k : Nat) (A0 : Option Addr) (c0 : Nat) (l0 : List (S27)) (A1 : Option Addr) (c1 : Nat) (l1 : List (S27)) (r : Bool) (w : World) (hr0 : Kd.C k27 w A0 l0.length l0) (hc0 : l0.length ≤ c0) (hr1 : Kd.C k27 w A1 l1.length l1) (hc1 : l1.length ≤ c1) (h : laws_equalUsers.f k l0 l1 = some r) :
    Calls Try.prog 19 #[.slice A0 l0.length c0, .slice A1 l1.length c1] w fun e w' => e = .returned (.bool r) ∧ Drawn0 w w' := by
  have hu27 := Try.underlying27
  have HR0 := Aside0.mk hr0
  have HC0 := Aside0.mk hc0
  clear hr0 hc0
  have HR1 := Aside0.mk hr1
  have HC1 := Aside0.mk hc1
  clear hr1 hc1
  have H : (if (l0.length : Int) = (l1.length : Int) then (laws_equalUsers.l0 k l0 l1 0) else (some false)) = some r := h
  clear h
  by_cases c3 : (l0.length : Int) = (l1.length : Int)
  · rw [if_pos c3] at H
    have c3b0 : ((l0.length : Int) == (l1.length : Int)) = true := beq_iff_eq.mpr c3
    have c3b1 : ((l0.length : Int) != (l1.length : Int)) = false := bne_eq_false_iff_eq.mpr c3
    have c3b2 : (l0.length == l1.length) = true := by first | simpa using c3 | (simp at c3 ⊢; omega)
    clear c3
    have H' := Aside0.mk H
    clear H
    go_enter Try.func19, Try.ntmps19
    go_wp2
    repeat (go_quiet (fail); try go_wp2)
    go_loopg [5] k (fun kq v5 w' => ∃ (x5_1 : Int), v5 = .int .i64 x5_1 ∧ Aside0 (laws_equalUsers.l0 kq l0 l1 x5_1 = some r) ∧ Aside0 (kq ≤ k) ∧ Drawn0 w w')
    case atStart => exact ⟨(0), (by first | rfl | (simp; done) | (simp [*]; done)), H', ⟨Nat.le_refl _⟩, by repeat (first | exact Drawn0.refl _ | apply Drawn0.step)⟩
    case round =>
      clear H'
      try clear c1
      try clear p2
      try clear c3
      try clear c3b0
      try clear c3b1
      try clear c3b2
      obtain ⟨x5_1, rfl, HA, HK1, ⟨m1, rfl⟩⟩ := hrel
      cases gk with
      | zero => exact absurd HA.out (by simp [laws_equalUsers.l0])
      | succ k1 =>
        have H := HA.out
        clear HA
        simp only [laws_equalUsers.l0] at H
        by_cases c4 : x5_1 < (l0.length : Int)
        · rw [if_pos c4] at H
          have c4b0 : decide (x5_1 < (l0.length : Int)) = true := decide_eq_true c4
          clear c4
          by_cases c5 : 0 ≤ x5_1
          · rw [if_pos c5] at H
            have c5b0 : decide (0 ≤ x5_1) = true := decide_eq_true c5
            clear c5
            by_cases c6 : x5_1 < (l1.length : Int)
            · rw [if_pos c6] at H
              have c6b0 : decide (x5_1 < (l1.length : Int)) = true := decide_eq_true c6
              clear c6
              by_cases c7 : (!(((rd_T27 l0 x5_1).f0) == ((rd_T27 l1 x5_1).f0)) || (!(((rd_T27 l0 x5_1).f1) == ((rd_T27 l1 x5_1).f1)) || (!(((rd_T27 l0 x5_1).f2) == ((rd_T27 l1 x5_1).f2))))) = true
              · rw [if_pos c7] at H
                have c7b0 : (!(((rd_T27 l0 x5_1).f0) == ((rd_T27 l1 x5_1).f0)) || (!(((rd_T27 l0 x5_1).f1) == ((rd_T27 l1 x5_1).f1)) || (!(((rd_T27 l0 x5_1).f2) == ((rd_T27 l1 x5_1).f2))))) = true := c7
                clear c7
                obtain rfl := Option.some.inj H
                have p277 : 0 ≤ (x5_1 : Int) := of_decide_eq_true (by first | (with_reducible assumption) | assumption)
                have q277 : x5_1 < (l0.length : Int) := of_decide_eq_true (by first | (with_reducible assumption) | assumption)
                obtain ⟨ad277, e277, hx277_0, hx277_1, hx277_2⟩ := at_T27 HR0.out x5_1 p277 q277
                cases e277
                replace p277 := eq_true p277
                replace q277 := eq_true q277
                have p278 : 0 ≤ (x5_1 : Int) := of_decide_eq_true (by first | (with_reducible assumption) | assumption)
                have q278 : x5_1 < (l1.length : Int) := of_decide_eq_true (by first | (with_reducible assumption) | assumption)
                obtain ⟨ad278, e278, hx278_0, hx278_1, hx278_2⟩ := at_T27 HR1.out x5_1 p278 q278
                cases e278
                replace p278 := eq_true p278
                replace q278 := eq_true q278
                go_wp2
                repeat (go_quiet (fail); try go_wp2)
                go_ret
                exact ⟨by first | rfl | (simp; done) | (simp [*]; done), by repeat (first | exact Drawn0.refl _ | apply Drawn0.step)⟩
              · rw [if_neg c7] at H
                have c7b0 : (!(((rd_T27 l0 x5_1).f0) == ((rd_T27 l1 x5_1).f0)) || (!(((rd_T27 l0 x5_1).f1) == ((rd_T27 l1 x5_1).f1)) || (!(((rd_T27 l0 x5_1).f2) == ((rd_T27 l1 x5_1).f2))))) = false := by simpa using c7
                clear c7
                have H' := Aside0.mk H
                clear H
                have p277 : 0 ≤ (x5_1 : Int) := of_decide_eq_true (by first | (with_reducible assumption) | assumption)
                have q277 : x5_1 < (l0.length : Int) := of_decide_eq_true (by first | (with_reducible assumption) | assumption)
                obtain ⟨ad277, e277, hx277_0, hx277_1, hx277_2⟩ := at_T27 HR0.out x5_1 p277 q277
                cases e277
                replace p277 := eq_true p277
                replace q277 := eq_true q277
                have p278 : 0 ≤ (x5_1 : Int) := of_decide_eq_true (by first | (with_reducible assumption) | assumption)
                have q278 : x5_1 < (l1.length : Int) := of_decide_eq_true (by first | (with_reducible assumption) | assumption)
                obtain ⟨ad278, e278, hx278_0, hx278_1, hx278_2⟩ := at_T27 HR1.out x5_1 p278 q278
                cases e278
                replace p278 := eq_true p278
                replace q278 := eq_true q278
                go_wp2
                repeat (go_quiet (fail); try go_wp2)
                go_roundg k1
                case measure => have := HK1.out; omega
                case rel => exact ⟨(wrap64 (x5_1 + 1)), (by first | rfl | (simp; done) | (simp [*]; done)), H', ⟨by have := HK1.out; omega⟩, by repeat (first | exact Drawn0.refl _ | apply Drawn0.step)⟩
            · rw [if_neg c6] at H
              exact absurd H (by simp)
          · rw [if_neg c5] at H
            exact absurd H (by simp)
        · rw [if_neg c4] at H
          have c4b0 : decide (x5_1 < (l0.length : Int)) = false := decide_eq_false c4
          clear c4
          obtain rfl := Option.some.inj H
          go_wp2
          repeat (go_quiet (fail); try go_wp2)
          go_ret
          exact ⟨by first | rfl | (simp; done) | (simp [*]; done), by repeat (first | exact Drawn0.refl _ | apply Drawn0.step)⟩
  · rw [if_neg c3] at H
    have c3b0 : ((l0.length : Int) == (l1.length : Int)) = false := beq_eq_false_iff_ne.mpr c3
    have c3b1 : ((l0.length : Int) != (l1.length : Int)) = true := bne_iff_ne.mpr c3
    have c3b2 : (l0.length == l1.length) = false := by first | simpa using c3 | (simp at c3 ⊢; omega)
    obtain rfl := Option.some.inj H
    go_enter Try.func19, Try.ntmps19
    go_wp2
    repeat (go_quiet (fail); try go_wp2)
    go_ret
    exact ⟨by first | rfl | (simp; done) | (simp [*]; done), by repeat (first | exact Drawn0.refl _ | apply Drawn0.step)⟩

end Go.Proofs.Ytafiidbkkcaegaa.G
