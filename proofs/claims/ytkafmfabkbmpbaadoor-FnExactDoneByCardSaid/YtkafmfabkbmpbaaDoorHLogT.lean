/-
 take by hand.
-/
import Derived.BigQuiet
import Derived.Deep.QuietTactic
import Derived.Test.YtkafmfabkbmpbaaDoorHLogM
import Derived.Test.YtkafmfabkbmpbaaDoorG0
import Derived.Test.YtkafmfabkbmpbaaDoorG10
namespace Go.Proofs.YtkafmfabkbmpbaaDoor.G
open Go.RowKit Go.Proofs.YtkafmfabkbmpbaaDoorW.PrintWords Go.Proofs.YtkafmfabkbmpbaaDoorW.PrintLast Go.Proofs.YtkafmfabkbmpbaaDoorW.PrintMore C
set_option linter.unusedVariables false
set_option linter.unusedSimpArgs false
attribute [local go_sem] Oper.semAt_some

theorem wrapn {x : Int} (h0 : -9223372036854775808 ≤ x) (h1 : x ≤ 9223372036854775807) : IntKind.i64.wrap x = x := by
 rw [i64_w, w64 h0 h1]
set_option maxHeartbeats 8000000 in
set_option maxRecDepth 1000000 in
theorem take_rng {b : Nat} {W : World} {g n M : Nat} {l0 : List S47} {nd od bl ab : List Nat} {s : Mst} {e0 e1 : Int} {e2 : Bool} (hG : IsG b W g n l0 nd od bl ab) (hM : IsM W M g s) (hn8 : n ≤ 8) (h : rngM n ⟨e0, e1, e2⟩ = false) :
  Calls Tryd.prog 44 #[.pointer (some ⟨M, 0, none⟩), .agg #[.int .i64 e0, .int .i64 e1, .bool e2]] W fun x W' => x = .returned (.bool false) ∧ KM M W W' := by
 have hML : M < W.heap.size := blk_lt hM
 have hu46 := Tryd.underlying46
 have hu61 := Tryd.underlying61
 have HB := Aside0.mk (KM.of_below hML (below_alloc (Below.refl W.heap.size W) (.cells #[.int .i64 e0, .int .i64 e1, .bool e2] 46)))
 have hn : IntKind.i64.wrap ((n : Int) - 1) = (n : Int) - 1 := wrapn (by omega) (by omega)
 by_cases h1 : 0 ≤ e0 ∧ e0 ≤ 200
 ·have h2 : ¬ (0 ≤ e1 ∧ e1 ≤ (n : Int) - 1) := by
   intro h2
   unfold rngM at h
   rw [decide_eq_true h1, decide_eq_true h2] at h
   cases h
  have HW1 := Aside0.mk (show impl_within.f e0 0 200 = some true by rw [within_eq, decide_eq_true h1])
  have HW2 := Aside0.mk (show impl_within.f e1 0 (IntKind.i64.wrap ((n : Int) - 1)) = some false by rw [hn, within_eq, decide_eq_false h2])
  have HG := Aside0.mk (hG.below (below_alloc (Below.refl W.heap.size W) (.cells #[.int .i64 e0, .int .i64 e1, .bool e2] 46)))
  have cm : (W.alloc (.cells #[.int .i64 e0, .int .i64 e1, .bool e2] 46)).cell? ⟨M, 0, none⟩ = some (.pointer (some ⟨g, 0, none⟩)) := (cell_blk (blk_alloc hM _) 0).trans rfl
  clear h h1 h2 hM hG hn
  go_enter Tryd.func44, Tryd.ntmps44
  go_wp2_with fail
  go_quiet (first | (go_at_call 54; exact q_of (impl_within.calls _ _ _ _ _ HW1.out)) | (go_at_call 55; exact Calls.quiet_of_same (size_calls (HG.out.drawn ((Drawn0.refl _).step _)))) | (go_at_call 54; exact q_of (impl_within.calls _ _ _ _ _ HW2.out)))
  go_wp2
  go_ret
  exact ⟨rfl, HB.out.drewN _⟩
 ·have HW := Aside0.mk (show impl_within.f e0 0 200 = some false by rw [within_eq, decide_eq_false h1])
  clear h h1 hM hG
  go_enter Tryd.func44, Tryd.ntmps44
  go_wp2_with fail
  go_quiet (first | (go_at_call 54; exact q_of (impl_within.calls _ _ _ _ _ HW.out)))
  go_wp2
  go_ret
  exact ⟨rfl, HB.out.drewN _⟩
set_option maxHeartbeats 8000000 in
set_option maxRecDepth 1000000 in
theorem take_begin {b : Nat} {W : World} {g n M : Nat} {l0 : List S47} {nd od bl ab : List Nat} {s : Mst} {e0 : Int} {t : Nat} (hG : IsG b W g n l0 nd od bl ab) (hM : IsM W M g s) (hn8 : n ≤ 8) (hnd : Sets n nd) (hs : OkS n s) (h0 : 0 ≤ e0 ∧ e0 ≤ 200) (ht : t < n) :
  Calls Tryd.prog 44 #[.pointer (some ⟨M, 0, none⟩), .agg #[.int .i64 e0, .int .i64 (t : Int), .bool false]] W fun x W' => x = .returned (.bool (!s.bg.testBit t && decide (andNot (nd.getD t 0) s.ov = 0))) ∧ KM M W W' ∧ ((!s.bg.testBit t && decide (andNot (nd.getD t 0) s.ov = 0)) = true → IsM W' M g ⟨s.bg ||| 2 ^ t, s.ov, upd s.be t e0, s.cl⟩) := by
 obtain ⟨bg, ov, be, cl⟩ := s
 have hML : M < W.heap.size := blk_lt hM
 have hu46 := Tryd.underlying46
 have hu61 := Tryd.underlying61
 have hn : IntKind.i64.wrap ((n : Int) - 1) = (n : Int) - 1 := wrapn (by omega) (by omega)
 have HW1 := Aside0.mk (show impl_within.f e0 0 200 = some true by rw [within_eq, decide_eq_true h0])
 have HW2 := Aside0.mk (show impl_within.f (t : Int) 0 (IntKind.i64.wrap ((n : Int) - 1)) = some true by rw [hn, within_eq, decide_eq_true (by omega)])
 have hbg : bg < 65536 := Nat.lt_trans (pow8 hn8 hs.bg) (by decide)
 have hov : ov < 65536 := Nat.lt_trans (pow8 hn8 hs.ov) (by decide)
 have HHA := Aside0.mk (has_eq hbg (show t < 16 by omega))
 have HWI := Aside0.mk (with_eq hbg (show t < 16 by omega))
 obtain ⟨mt, hmt⟩ : ∃ m, nd.getD t 0 = m := ⟨_, rfl⟩
 have hmt8 := hnd.get t
 rw [hmt] at hmt8 ⊢
 have hand := andNot16 (Nat.lt_trans (pow8 hn8 hmt8) (by decide)) hov
 obtain ⟨q, hq⟩ : ∃ q, andNot mt ov = q := ⟨_, rfl⟩
 rw [hq] at hand ⊢
 have hal := below_alloc (Below.refl W.heap.size W) (.cells #[.int .i64 e0, .int .i64 (t : Int), .bool false] 46)
 have HB := Aside0.mk (KM.of_below hML hal)
 have HG := Aside0.mk (hG.below hal)
 have hM1 : IsM (W.alloc (.cells #[.int .i64 e0, .int .i64 (t : Int), .bool false] 46)) M g ⟨bg, ov, be, cl⟩ := blk_alloc hM _
 have HM := Aside0.mk hM1
 have HE := Aside0.mk (al_new W 46 #[.int .i64 e0, .int .i64 (t : Int), .bool false])
 have cm0 := (cell_blk hM1 0).trans (show (mc g ⟨bg, ov, be, cl⟩)[0]? = some (.pointer (some ⟨g, 0, none⟩)) from rfl)
 obtain ⟨E, hE⟩ : ∃ E, W.heap.size = E := ⟨_, rfl⟩
 have HNE := Aside0.mk (show M ≠ E by omega)
 have H8 := Aside0.mk (show t < 8 ∧ t < n ∧ nd.getD t 0 = mt from ⟨by omega, ht, hmt⟩)
 have qt : (t : Int) < (n : Int) := by omega
 clear hM hG hn hM1 hal h0 hmt hmt8 hnd hs hML hn8 hbg hov hq
 rw [hE] at HE
 show Calls _ _ _ _ (fun x W' => x = .returned (.bool (!bg.testBit t && decide (q = 0))) ∧ KM M W W' ∧ ((!bg.testBit t && decide (q = 0)) = true → IsM W' M g ⟨bg ||| 2 ^ t, ov, upd be t e0, cl⟩))
 go_enter Tryd.func44, Tryd.ntmps44
 go_wp2_with fail
 go_quiet (first | (go_at_call 54; exact q_of (impl_within.calls _ _ _ _ _ HW1.out)) | (go_at_call 55; exact Calls.quiet_of_same (size_calls (HG.out.drawn ((Drawn0.refl _).step _)))) | (go_at_call 54; exact q_of (impl_within.calls _ _ _ _ _ HW2.out)))
 have hb := HB.out.drewN nq
 have hg := HG.out.drawn ((Drawn0.refl _).step nq)
 have hm : IsM (World.drewN (W.alloc (.cells #[.int .i64 e0, .int .i64 (t : Int), .bool false] 46)) nq) M g ⟨bg, ov, be, cl⟩ := HM.out
 have he : (World.drewN (W.alloc (.cells #[.int .i64 e0, .int .i64 (t : Int), .bool false] 46)) nq).heap[E]? = _ := HE.out
 generalize World.drewN (W.alloc (.cells #[.int .i64 e0, .int .i64 (t : Int), .bool false] 46)) nq = W2 at hb hg hm he ⊢
 clear HB HM HE cm0 HG hE
 have HG := Aside0.mk hg
 have HM := Aside0.mk hm
 have HE := Aside0.mk he
 have HB := Aside0.mk hb
 obtain ⟨A0, c0, An, cn, Ao, co, Pb, Pa, h1, hca, hCt, hCn, hRo, hCb, hCa⟩ := hg
 obtain ⟨ad2, e2, ci⟩ := Kd.at_int hCn (t : Int) (by omega) (by omega)
 rw [Int.toNat_natCast, rd_castL, H8.out.2.2] at ci
 subst e2
 have cg : W2.cell? ⟨g, 1, none⟩ = some (.slice (some ad2) n cn) := (cell_blk h1 1).trans rfl
 have ce0 : W2.cell? ⟨E, 0, none⟩ = some (.int .i64 e0) := (cell_blk he 0).trans rfl
 have ce1 : W2.cell? ⟨E, 1, none⟩ = some (.int .i64 (t : Int)) := (cell_blk he 1).trans rfl
 have ce2 : W2.cell? ⟨E, 2, none⟩ = some (.bool false) := (cell_blk he 2).trans rfl
 have cm0 := (cell_blk hm 0).trans (show (mc g ⟨bg, ov, be, cl⟩)[0]? = some (.pointer (some ⟨g, 0, none⟩)) from rfl)
 have cm1 := (cell_blk hm 1).trans (show (mc g ⟨bg, ov, be, cl⟩)[1]? = some (.int .u16 (bg : Nat)) from rfl)
 have cm2 := (cell_blk hm 2).trans (show (mc g ⟨bg, ov, be, cl⟩)[2]? = some (.int .u16 (ov : Nat)) from rfl)
 clear h1 hca hCt hCn hRo hCb hCa hm he hb HW1 HW2
 go_wp2
 cases hc1 : bg.testBit t with
 | true =>
  rw [hc1] at HHA
  clear hand
  go_quiet (first | (go_at_call 56; exact q_of (impl_set_has.calls _ _ _ _ HHA.out)))
  go_wp2
  go_ret
  exact ⟨by rw [hc1]; rfl, HB.out.drewN _, fun h => by rw [hc1] at h; cases h⟩
 | false =>
  rw [hc1] at HHA
  by_cases hq0 : q = 0
  ·subst hq0
   go_quiet (first | (go_at_call 56; exact q_of (impl_set_has.calls _ _ _ _ HHA.out)))
   have hb := HB.out.drewN nq
   have hm : IsM (World.drewN W2 nq) M g ⟨bg, ov, be, cl⟩ := HM.out
   have he : (World.drewN W2 nq).heap[E]? = _ := HE.out
   generalize World.drewN W2 nq = W3 at hb hm he ⊢
   clear cg ce0 ce1 ce2 cm0 cm1 cm2 ci HG HM HE HB hand HHA
   have HM := Aside0.mk hm
   have HE := Aside0.mk he
   have HB := Aside0.mk hb
   have ce1 : W3.cell? ⟨E, 1, none⟩ = some (.int .i64 (t : Int)) := (cell_blk he 1).trans rfl
   have cm1 := (cell_blk hm 1).trans (show (mc g ⟨bg, ov, be, cl⟩)[1]? = some (.int .u16 (bg : Nat)) from rfl)
   have fm1 := blk_frozen hm 1
   clear hb hm he
   go_wp2
   refine calm_wp ?_
   refine start_ (n := 11) (S := Drawn0 W3) (ds := [10]) (bs 11 0) (by kernel_rfl) rfl (by kernel_rfl) (Drawn0.step (Drawn0.refl W3) 1) (fun hHeld => ?_)
   obtain ⟨W4, e4⟩ : ∃ x, W3.drew = x := ⟨_, rfl⟩
   rw [e4] at hHeld ⊢
   clear e4
   refine pureN 0 50 (bs 11 1) ?_
   refine pureN 1 51 (bs 11 3) ?_
   refine pureN 2 52 (bs 11 7) ?_
   refine pureN 3 53 (bs 11 15) ?_
   refine takeN 4 54 (bs 11 31) hHeld rfl (.inl ⟨by rfl, fun w' s => by have s0 := (drawn_cell s _).trans cm1; go_simp; with_reducible rfl⟩) ?_
   refine pureN 5 55 (bs 11 63) ?_
   refine takeN 6 56 (bs 11 127) hHeld rfl (.inl ⟨by rfl, fun w' s => by have s0 := (drawn_cell s _).trans ce1; go_simp; with_reducible rfl⟩) ?_
   refine one_ (i := 7) (N := some 57) (bs 11 255) rfl rfl (by kernel_rfl) (by decide) (fun K hK => ?_)
   refine goes_ (f := 32) Tryd.func32 rfl rfl #[.int .u16 (bg : Nat), .int .i64 (t : Nat)] (by rfl) rfl rfl (by first | rfl | (go_simp; try rfl)) ?_
   refine (impl_set_with.calls _ _ _ _ HWI.out).mono ?_
   rintro e w7 ⟨rfl, hd⟩
   refine ⟨_, rfl, hK.out _ _ (drawn_trans hHeld hd) (fun hH2 => ?_)⟩
   clear hK K hd
   refine normN ?_
   have hHeld := hH2
   refine pureN 8 58 (bs 11 511) ?_
   refine pureN 9 59 (bs 11 1023) ?_
   refine last_ (i := 10) (N := none) (bs 11 2047) rfl rfl (by kernel_rfl) (by decide) (fun K hK => ?_)
   have s0 := (drawn_cell hH2 _).trans cm1
   have s1 : w7.frozen? ⟨M, 1, none⟩ = false := (drawn_frozen hH2 _).trans fm1
   refine skip_ (w1 := w7.setCell ⟨M, 1, none⟩ (.int .u16 ((bg ||| 2 ^ t : Nat) : Int))) (by rfl) rfl (by go_simp; try rfl) ?_
   refine hK.out _ _ ?_
   refine done_ (by kernel_rfl) ?_
   refine calm_out ?_
   have hh := drawn_heap hHeld
   have hm7 : IsM w7 M g ⟨bg, ov, be, cl⟩ := by
    show w7.heap[M]? = _
    rw [hh]
    exact HM.out
   have he7 : w7.heap[E]? = some (.cells #[.int .i64 e0, .int .i64 (t : Int), .bool false] 46 (0, 0)) := by
    rw [hh]
    exact HE.out
   have hm8 := hm7.setbg (bg ||| 2 ^ t)
   have he8 := blk_far he7 (p := ⟨M, 1, none⟩) (Ne.symm HNE.out) (.int .u16 ((bg ||| 2 ^ t : Nat) : Int))
   have hb8 := (HB.out.drawn hHeld).set 1 (.int .u16 ((bg ||| 2 ^ t : Nat) : Int))
   clear s0 s1 hK K hHeld hH2 hh hm7 he7 ce1 cm1 fm1
   generalize w7.setCell ⟨M, 1, none⟩ (.int .u16 ((bg ||| 2 ^ t : Nat) : Int)) = W8 at hm8 he8 hb8 ⊢
   have ce0 : W8.cell? ⟨E, 0, none⟩ = some (.int .i64 e0) := (cell_blk he8 0).trans rfl
   have ce1 : W8.cell? ⟨E, 1, none⟩ = some (.int .i64 (t : Int)) := (cell_blk he8 1).trans rfl
   have cmt := (cell_blk hm8 (3 + t)).trans (mc_be _ _ H8.out.1)
   have fmt := blk_frozen hm8 (3 + t)
   have qt8 : (t : Int) < 8 := by have := H8.out.1; omega
   have HM8 := Aside0.mk hm8
   have HB8 := Aside0.mk hb8
   clear hm8 he8 hb8
   dsimp only at cmt
   go_wp2_with fail
   go_region
   have HX := Aside0.mk (HM8.out.setbe H8.out.1 e0)
   have HY := Aside0.mk ((HB8.out.set (3 + t) (.int .i64 e0)).drewN 1)
   go_wp2
   go_ret
   exact ⟨rfl, HY.out, HX.out⟩
  ·have hb0 : ((q : Int) == 0) = false := beq_eq_false_iff_ne.2 (by omega)
   go_quiet (first | (go_at_call 56; exact q_of (impl_set_has.calls _ _ _ _ HHA.out)))
   go_wp2
   go_ret
   exact ⟨by rw [hc1, decide_eq_false hq0]; rfl, HB.out.drewN _, fun h => by rw [hc1, decide_eq_false hq0] at h; cases h⟩
set_option maxHeartbeats 16000000 in
set_option maxRecDepth 1000000 in
theorem take_over {b : Nat} {W : World} {g n M : Nat} {l0 : List S47} {nd od bl ab : List Nat} {s : Mst} {e0 : Int} {t : Nat} (hG : IsG b W g n l0 nd od bl ab) (hM : IsM W M g s) (hn8 : n ≤ 8) (htm : 1 ≤ (rd_T47 l0 (t : Int)).f0 ∧ (rd_T47 l0 (t : Int)).f0 ≤ 20) (hs : OkS n s) (h0 : 0 ≤ e0 ∧ e0 ≤ 200) (ht : t < n) :
  Calls Tryd.prog 44 #[.pointer (some ⟨M, 0, none⟩), .agg #[.int .i64 e0, .int .i64 (t : Int), .bool true]] W fun x W' => x = .returned (.bool (s.bg.testBit t && (!s.ov.testBit t && decide (e0 = s.be t + (rd_T47 l0 (t : Int)).f0)))) ∧ KM M W W' ∧ ((s.bg.testBit t && (!s.ov.testBit t && decide (e0 = s.be t + (rd_T47 l0 (t : Int)).f0))) = true → IsM W' M g ⟨s.bg, s.ov ||| 2 ^ t, s.be, upd s.cl t e0⟩) := by
 obtain ⟨bg, ov, be, cl⟩ := s
 have hML : M < W.heap.size := blk_lt hM
 have hu46 := Tryd.underlying46
 have hu47 := Tryd.underlying47
 have hu61 := Tryd.underlying61
 have hn : IntKind.i64.wrap ((n : Int) - 1) = (n : Int) - 1 := wrapn (by omega) (by omega)
 have HW1 := Aside0.mk (show impl_within.f e0 0 200 = some true by rw [within_eq, decide_eq_true h0])
 have HW2 := Aside0.mk (show impl_within.f (t : Int) 0 (IntKind.i64.wrap ((n : Int) - 1)) = some true by rw [hn, within_eq, decide_eq_true (by omega)])
 have hbg : bg < 65536 := Nat.lt_trans (pow8 hn8 hs.bg) (by decide)
 have hov : ov < 65536 := Nat.lt_trans (pow8 hn8 hs.ov) (by decide)
 have HHB := Aside0.mk (has_eq hbg (show t < 16 by omega))
 have HHO := Aside0.mk (has_eq hov (show t < 16 by omega))
 have HWI := Aside0.mk (with_eq hov (show t < 16 by omega))
 have hbt := hs.be t
 have hw : IntKind.i64.wrap (be t + (rd_T47 l0 (t : Int)).f0) = be t + (rd_T47 l0 (t : Int)).f0 := wrapn (by dsimp only at hbt; omega) (by dsimp only at hbt; omega)
 have hal := below_alloc (Below.refl W.heap.size W) (.cells #[.int .i64 e0, .int .i64 (t : Int), .bool true] 46)
 have HB := Aside0.mk (KM.of_below hML hal)
 have HG := Aside0.mk (hG.below hal)
 have hM1 : IsM (W.alloc (.cells #[.int .i64 e0, .int .i64 (t : Int), .bool true] 46)) M g ⟨bg, ov, be, cl⟩ := blk_alloc hM _
 have HM := Aside0.mk hM1
 have HE := Aside0.mk (al_new W 46 #[.int .i64 e0, .int .i64 (t : Int), .bool true])
 have cm0 := (cell_blk hM1 0).trans (show (mc g ⟨bg, ov, be, cl⟩)[0]? = some (.pointer (some ⟨g, 0, none⟩)) from rfl)
 obtain ⟨E, hE⟩ : ∃ E, W.heap.size = E := ⟨_, rfl⟩
 have HNE := Aside0.mk (show M ≠ E by omega)
 have H8 := Aside0.mk (show t < 8 ∧ t < n from ⟨by omega, ht⟩)
 have qt : (t : Int) < (n : Int) := by omega
 have qt8 : (t : Int) < 8 := by omega
 clear hM hG hn hM1 hal h0 hs hML hn8 hbg hov htm hbt
 rw [hE] at HE
 show Calls _ _ _ _ (fun x W' => x = .returned (.bool (bg.testBit t && (!ov.testBit t && decide (e0 = be t + (rd_T47 l0 (t : Int)).f0)))) ∧ KM M W W' ∧ ((bg.testBit t && (!ov.testBit t && decide (e0 = be t + (rd_T47 l0 (t : Int)).f0))) = true → IsM W' M g ⟨bg, ov ||| 2 ^ t, be, upd cl t e0⟩))
 go_enter Tryd.func44, Tryd.ntmps44
 go_wp2_with fail
 go_quiet (first | (go_at_call 54; exact q_of (impl_within.calls _ _ _ _ _ HW1.out)) | (go_at_call 55; exact Calls.quiet_of_same (size_calls (HG.out.drawn ((Drawn0.refl _).step _)))) | (go_at_call 54; exact q_of (impl_within.calls _ _ _ _ _ HW2.out)))
 have hb := HB.out.drewN nq
 have hg := HG.out.drawn ((Drawn0.refl _).step nq)
 have hm : IsM (World.drewN (W.alloc (.cells #[.int .i64 e0, .int .i64 (t : Int), .bool true] 46)) nq) M g ⟨bg, ov, be, cl⟩ := HM.out
 have he : (World.drewN (W.alloc (.cells #[.int .i64 e0, .int .i64 (t : Int), .bool true] 46)) nq).heap[E]? = _ := HE.out
 generalize World.drewN (W.alloc (.cells #[.int .i64 e0, .int .i64 (t : Int), .bool true] 46)) nq = W2 at hb hg hm he ⊢
 clear HB HM HE cm0 HG hE
 have HM := Aside0.mk hm
 have HE := Aside0.mk he
 have HB := Aside0.mk hb
 obtain ⟨A0, c0, An, cn, Ao, co, Pb, Pa, h1, hca, hCt, hCn, hRo, hCb, hCa⟩ := hg
 obtain ⟨ad, An', cn', e1, ct, _⟩ := at_T47 hCt (t : Int) (by omega) (by omega)
 rw [Int.toNat_natCast] at ct
 subst e1
 have cg : W2.cell? ⟨g, 0, none⟩ = some (.slice (some ad) n c0) := (cell_blk h1 0).trans rfl
 have ce0 : W2.cell? ⟨E, 0, none⟩ = some (.int .i64 e0) := (cell_blk he 0).trans rfl
 have ce1 : W2.cell? ⟨E, 1, none⟩ = some (.int .i64 (t : Int)) := (cell_blk he 1).trans rfl
 have ce2 : W2.cell? ⟨E, 2, none⟩ = some (.bool true) := (cell_blk he 2).trans rfl
 have cm0 := (cell_blk hm 0).trans (show (mc g ⟨bg, ov, be, cl⟩)[0]? = some (.pointer (some ⟨g, 0, none⟩)) from rfl)
 have cm1 := (cell_blk hm 1).trans (show (mc g ⟨bg, ov, be, cl⟩)[1]? = some (.int .u16 (bg : Nat)) from rfl)
 have cm2 := (cell_blk hm 2).trans (show (mc g ⟨bg, ov, be, cl⟩)[2]? = some (.int .u16 (ov : Nat)) from rfl)
 have cm3 := (cell_blk hm (3 + t)).trans (mc_be _ _ H8.out.1)
 dsimp only at cm3
 clear h1 hca hCt hCn hRo hCb hCa hm he hb HW1 HW2
 obtain ⟨tm, htm⟩ : ∃ x, (rd_T47 l0 (t : Int)).f0 = x := ⟨_, rfl⟩
 rw [htm] at ct hw
 obtain ⟨bt, hbt⟩ : ∃ x, be t = x := ⟨_, rfl⟩
 rw [hbt] at cm3 hw
 have HP := Aside0.mk (show (rd_T47 l0 (t : Int)).f0 = tm ∧ be t = bt from ⟨htm, hbt⟩)
 clear htm hbt
 go_wp2
 cases hc1 : bg.testBit t with
 | false =>
  rw [hc1] at HHB
  clear hw
  go_quiet (first | (go_at_call 56; exact q_of (impl_set_has.calls _ _ _ _ HHB.out)))
  go_wp2
  go_ret
  exact ⟨by rw [hc1]; rfl, HB.out.drewN _, fun h => by rw [hc1] at h; cases h⟩
 | true =>
  rw [hc1] at HHB
  cases hc2 : ov.testBit t with
  | true =>
   rw [hc2] at HHO
   clear hw
   go_quiet (first | (go_at_call 56; exact q_of (impl_set_has.calls _ _ _ _ HHB.out)) | (go_at_call 56; exact q_of (impl_set_has.calls _ _ _ _ HHO.out)))
   go_wp2
   go_ret
   exact ⟨by rw [hc1, hc2]; rfl, HB.out.drewN _, fun h => by rw [hc1, hc2] at h; cases h⟩
  | false =>
   rw [hc2] at HHO
   by_cases he0 : e0 = bt + tm
   ·have hb0 : (e0 == bt + tm) = true := beq_iff_eq.2 he0
    go_quiet (first | (go_at_call 56; exact q_of (impl_set_has.calls _ _ _ _ HHB.out)) | (go_at_call 56; exact q_of (impl_set_has.calls _ _ _ _ HHO.out)))
    have hb := HB.out.drewN nq
    have hm : IsM (World.drewN W2 nq) M g ⟨bg, ov, be, cl⟩ := HM.out
    have he : (World.drewN W2 nq).heap[E]? = _ := HE.out
    generalize World.drewN W2 nq = W3 at hb hm he ⊢
    have HE0 := Aside0.mk he0
    clear cg ct ce0 ce1 ce2 cm0 cm1 cm2 cm3 HM HE HB HHB HHO hw hb0 he0
    have HM := Aside0.mk hm
    have HE := Aside0.mk he
    have HB := Aside0.mk hb
    have ce1 : W3.cell? ⟨E, 1, none⟩ = some (.int .i64 (t : Int)) := (cell_blk he 1).trans rfl
    have cm1 := (cell_blk hm 2).trans (show (mc g ⟨bg, ov, be, cl⟩)[2]? = some (.int .u16 (ov : Nat)) from rfl)
    have fm1 := blk_frozen hm 2
    clear hb hm he
    go_wp2
    refine calm_wp ?_
    refine start_ (n := 11) (S := Drawn0 W3) (ds := [10]) (bs 11 0) (by kernel_rfl) rfl (by kernel_rfl) (Drawn0.step (Drawn0.refl W3) 1) (fun hHeld => ?_)
    obtain ⟨W4, e4⟩ : ∃ x, W3.drew = x := ⟨_, rfl⟩
    rw [e4] at hHeld ⊢
    clear e4
    refine pureN 0 110 (bs 11 1) ?_
    refine pureN 1 111 (bs 11 3) ?_
    refine pureN 2 112 (bs 11 7) ?_
    refine pureN 3 113 (bs 11 15) ?_
    refine takeN 4 114 (bs 11 31) hHeld rfl (.inl ⟨by rfl, fun w' s => by have s0 := (drawn_cell s _).trans cm1; go_simp; with_reducible rfl⟩) ?_
    refine pureN 5 115 (bs 11 63) ?_
    refine takeN 6 116 (bs 11 127) hHeld rfl (.inl ⟨by rfl, fun w' s => by have s0 := (drawn_cell s _).trans ce1; go_simp; with_reducible rfl⟩) ?_
    refine one_ (i := 7) (N := some 117) (bs 11 255) rfl rfl (by kernel_rfl) (by decide) (fun K hK => ?_)
    refine goes_ (f := 32) Tryd.func32 rfl rfl #[.int .u16 (ov : Nat), .int .i64 (t : Nat)] (by rfl) rfl rfl (by first | rfl | (go_simp; try rfl)) ?_
    refine (impl_set_with.calls _ _ _ _ HWI.out).mono ?_
    rintro e w7 ⟨rfl, hd⟩
    refine ⟨_, rfl, hK.out _ _ (drawn_trans hHeld hd) (fun hH2 => ?_)⟩
    clear hK K hd
    refine normN ?_
    have hHeld := hH2
    refine pureN 8 118 (bs 11 511) ?_
    refine pureN 9 119 (bs 11 1023) ?_
    refine last_ (i := 10) (N := none) (bs 11 2047) rfl rfl (by kernel_rfl) (by decide) (fun K hK => ?_)
    have s0 := (drawn_cell hH2 _).trans cm1
    have s1 : w7.frozen? ⟨M, 2, none⟩ = false := (drawn_frozen hH2 _).trans fm1
    refine skip_ (w1 := w7.setCell ⟨M, 2, none⟩ (.int .u16 ((ov ||| 2 ^ t : Nat) : Int))) (by rfl) rfl (by go_simp; try rfl) ?_
    refine hK.out _ _ ?_
    refine done_ (by kernel_rfl) ?_
    refine calm_out ?_
    have hh := drawn_heap hHeld
    have hm7 : IsM w7 M g ⟨bg, ov, be, cl⟩ := by
     show w7.heap[M]? = _
     rw [hh]
     exact HM.out
    have he7 : w7.heap[E]? = some (.cells #[.int .i64 e0, .int .i64 (t : Int), .bool true] 46 (0, 0)) := by
     rw [hh]
     exact HE.out
    have hm8 := hm7.setov (ov ||| 2 ^ t)
    have he8 := blk_far he7 (p := ⟨M, 2, none⟩) (Ne.symm HNE.out) (.int .u16 ((ov ||| 2 ^ t : Nat) : Int))
    have hb8 := (HB.out.drawn hHeld).set 2 (.int .u16 ((ov ||| 2 ^ t : Nat) : Int))
    clear s0 s1 hK K hHeld hH2 hh hm7 he7 ce1 cm1 fm1
    generalize w7.setCell ⟨M, 2, none⟩ (.int .u16 ((ov ||| 2 ^ t : Nat) : Int)) = W8 at hm8 he8 hb8 ⊢
    have ce0 : W8.cell? ⟨E, 0, none⟩ = some (.int .i64 e0) := (cell_blk he8 0).trans rfl
    have ce1 : W8.cell? ⟨E, 1, none⟩ = some (.int .i64 (t : Int)) := (cell_blk he8 1).trans rfl
    have cmt := (cell_blk hm8 (11 + t)).trans (mc_cl _ _ H8.out.1)
    have fmt := blk_frozen hm8 (11 + t)
    have HM8 := Aside0.mk hm8
    have HB8 := Aside0.mk hb8
    clear hm8 he8 hb8
    dsimp only at cmt
    go_wp2_with fail
    go_region
    have HX := Aside0.mk (HM8.out.setcl H8.out.1 e0)
    have HY := Aside0.mk ((HB8.out.set (11 + t) (.int .i64 e0)).drewN 1)
    go_wp2
    go_ret
    refine ⟨?_, HY.out, ?_⟩
    ·rw [HP.out.1, HP.out.2, decide_eq_true HE0.out]
     rfl
    ·exact fun _ => HX.out
   ·have hb0 : (e0 == bt + tm) = false := beq_eq_false_iff_ne.2 he0
    go_quiet (first | (go_at_call 56; exact q_of (impl_set_has.calls _ _ _ _ HHB.out)) | (go_at_call 56; exact q_of (impl_set_has.calls _ _ _ _ HHO.out)))
    go_wp2
    go_ret
    exact ⟨by rw [hc1, hc2, HP.out.1, HP.out.2, decide_eq_false he0]; rfl, HB.out.drewN _, fun h => by rw [hc1, hc2, HP.out.1, HP.out.2, decide_eq_false he0] at h; cases h⟩
end Go.Proofs.YtkafmfabkbmpbaaDoor.G
