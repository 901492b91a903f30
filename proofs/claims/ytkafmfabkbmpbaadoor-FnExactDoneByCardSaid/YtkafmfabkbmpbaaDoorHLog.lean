/-
 ValidLog, MostTogether, BusyTime by hand.
-/
import Derived.Test.YtkafmfabkbmpbaaDoorHLogR
import Derived.Test.YtkafmfabkbmpbaaDoorG0
namespace Go.Proofs.YtkafmfabkbmpbaaDoor.G
open Go.RowKit Go.Proofs.YtkafmfabkbmpbaaDoorW.PrintWords Go.Proofs.YtkafmfabkbmpbaaDoorW.PrintLast Go.Proofs.YtkafmfabkbmpbaaDoorW.PrintMore C
set_option linter.unusedVariables false
set_option linter.unusedSimpArgs false
attribute [local go_sem] Oper.semAt_some

theorem replay_yes {A0 A1 : Option Addr} {c0 c1 : Nat} {l0 : List S47} {l1 : List S46} {w : World} (ho : okLog l0 l1 = true) (hr0 : Kd.C k47 w A0 l0.length l0) (hc0 : l0.length ≤ c0) (hr1 : Kd.C k46 w A1 l1.length l1) (hc1 : l1.length ≤ c1) (ht : Tab w) :
  Calls Tryd.prog 30 #[.slice A0 l0.length c0, .slice A1 l1.length c1] w fun e w' => ∃ M g b, e = .returned (.tuple #[.pointer (some ⟨M, 0, none⟩), .int .i64 (mostM l1 l1.length), .bool true]) ∧ IsM w' M g (stM l1 l1.length) ∧ IsG b w' g l0.length l0 (ndm l0) (ord l0) (bel l0) (abv l0) ∧ Below w.heap.size w w' :=
 (replay_calls hr0 hc0 hr1 hc1 ht).mono (fun e w' ⟨h1, h2⟩ => by
  rw [ho, if_pos rfl] at h2
  obtain ⟨M, g, b, e1, e2, e3⟩ := h2
  exact ⟨M, g, b, e1, e2, e3, h1⟩)
theorem replay_no {A0 A1 : Option Addr} {c0 c1 : Nat} {l0 : List S47} {l1 : List S46} {w : World} (ho : okLog l0 l1 = false) (hr0 : Kd.C k47 w A0 l0.length l0) (hc0 : l0.length ≤ c0) (hr1 : Kd.C k46 w A1 l1.length l1) (hc1 : l1.length ≤ c1) (ht : Tab w) :
  Calls Tryd.prog 30 #[.slice A0 l0.length c0, .slice A1 l1.length c1] w fun e w' => e = .returned (.tuple #[.pointer none, .int .i64 0, .bool false]) ∧ Below w.heap.size w w' :=
 (replay_calls hr0 hc0 hr1 hc1 ht).mono (fun e w' ⟨h1, h2⟩ => by
  rw [ho, if_neg (by decide)] at h2
  exact ⟨h2, h1⟩)
theorem okLog_gok {l0 : List S47} {l1 : List S46} (h : okLog l0 l1 = true) : gok l0 = true ∧ l1.length ≤ 16 ∧ ∀ i, i < l1.length → okAt l0 l1 i = true := by
 unfold okLog at h
 simp only [Bool.and_eq_true, List.all_eq_true, List.mem_range, decide_eq_true_eq] at h
 exact ⟨h.1, h.2.1, h.2.2⟩
def impl_ValidLog.f (l0 : List S47) (l1 : List S46) : Option (Bool) := some (okLog l0 l1)
set_option maxHeartbeats 8000000 in
set_option maxRecDepth 1000000 in
theorem impl_ValidLog.calls (A0 : Option Addr) (c0 : Nat) (l0 : List S47) (A1 : Option Addr) (c1 : Nat) (l1 : List S46) (r : Bool) (w : World) (hr0 : Kd.C k47 w A0 l0.length l0) (hc0 : l0.length ≤ c0) (hr1 : Kd.C k46 w A1 l1.length l1) (hc1 : l1.length ≤ c1) (h : impl_ValidLog.f l0 l1 = some r) (hT_ : Tab w) :
  Calls Tryd.prog 21 #[.slice A0 l0.length c0, .slice A1 l1.length c1] w fun e w' => e = .returned (.bool r) ∧ Below w.heap.size w w' := by
 injection h with h
 subst h
 cases ho : okLog l0 l1 with
 | true =>
  have HC := Aside0.mk (replay_yes ho hr0 hc0 hr1 hc1 hT_)
  clear ho hr0 hc0 hr1 hc1 hT_
  go_enter Tryd.func21, Tryd.ntmps21
  go_wp2_with (first | (go_at_call 30; refine HC.out.mono ?_; rintro e w1 ⟨M, g, b, rfl, hM, hG, hB⟩; have HB := Aside0.mk hB; clear hB hG hM))
  go_ret
  exact ⟨rfl, HB.out⟩
 | false =>
  have HC := Aside0.mk (replay_no ho hr0 hc0 hr1 hc1 hT_)
  clear ho hr0 hc0 hr1 hc1 hT_
  go_enter Tryd.func21, Tryd.ntmps21
  go_wp2_with (first | (go_at_call 30; refine HC.out.mono ?_; rintro e w1 ⟨rfl, hB⟩; have HB := Aside0.mk hB; clear hB))
  go_ret
  exact ⟨rfl, HB.out⟩
def impl_MostTogether.f (l0 : List S47) (l1 : List S46) : Option (Int) := some (if okLog l0 l1 = true then mostM l1 l1.length else -1)
set_option maxHeartbeats 8000000 in
set_option maxRecDepth 1000000 in
theorem impl_MostTogether.calls (A0 : Option Addr) (c0 : Nat) (l0 : List S47) (A1 : Option Addr) (c1 : Nat) (l1 : List S46) (r : Int) (w : World) (hr0 : Kd.C k47 w A0 l0.length l0) (hc0 : l0.length ≤ c0) (hr1 : Kd.C k46 w A1 l1.length l1) (hc1 : l1.length ≤ c1) (h : impl_MostTogether.f l0 l1 = some r) (hT_ : Tab w) :
  Calls Tryd.prog 25 #[.slice A0 l0.length c0, .slice A1 l1.length c1] w fun e w' => e = .returned (.int .i64 r) ∧ Below w.heap.size w w' := by
 injection h with h
 subst h
 cases ho : okLog l0 l1 with
 | true =>
  rw [if_pos rfl]
  have HC := Aside0.mk (replay_yes ho hr0 hc0 hr1 hc1 hT_)
  clear ho hr0 hc0 hr1 hc1 hT_
  obtain ⟨x, hx⟩ : ∃ x, mostM l1 l1.length = x := ⟨_, rfl⟩
  rw [hx] at HC ⊢
  clear hx
  go_enter Tryd.func25, Tryd.ntmps25
  go_wp2_with (first | (go_at_call 30; refine HC.out.mono ?_; rintro e w1 ⟨M, g, b, rfl, hM, hG, hB⟩; have HB := Aside0.mk hB; clear hB hG hM))
  go_ret
  exact ⟨rfl, HB.out⟩
 | false =>
  rw [if_neg (by decide)]
  have HC := Aside0.mk (replay_no ho hr0 hc0 hr1 hc1 hT_)
  clear ho hr0 hc0 hr1 hc1 hT_
  go_enter Tryd.func25, Tryd.ntmps25
  go_wp2_with (first | (go_at_call 30; refine HC.out.mono ?_; rintro e w1 ⟨rfl, hB⟩; have HB := Aside0.mk hB; clear hB))
  go_ret
  exact ⟨rfl, HB.out⟩
def impl_BusyTime.f (l0 : List S47) (l1 : List S46) : Option (Int) := some (if okLog l0 l1 = true then tsum l0 (elems (stM l1 l1.length).ov) else -1)
set_option maxHeartbeats 8000000 in
set_option maxRecDepth 1000000 in
theorem impl_BusyTime.calls (A0 : Option Addr) (c0 : Nat) (l0 : List S47) (A1 : Option Addr) (c1 : Nat) (l1 : List S46) (r : Int) (w : World) (hr0 : Kd.C k47 w A0 l0.length l0) (hc0 : l0.length ≤ c0) (hr1 : Kd.C k46 w A1 l1.length l1) (hc1 : l1.length ≤ c1) (h : impl_BusyTime.f l0 l1 = some r) (hT_ : Tab w) :
  Calls Tryd.prog 23 #[.slice A0 l0.length c0, .slice A1 l1.length c1] w fun e w' => e = .returned (.int .i64 r) ∧ Below w.heap.size w w' := by
 injection h with h
 subst h
 cases ho : okLog l0 l1 with
 | true =>
  rw [if_pos rfl]
  have HC := Aside0.mk (replay_yes ho hr0 hc0 hr1 hc1 hT_)
  have hk := okLog_gok ho
  have hs := stM_ok l1.length hk.2.2
  have HTO := Aside0.mk (fun (b : Nat) (w : World) (g : Nat) (h : IsG b w g l0.length l0 (ndm l0) (ord l0) (bel l0) (abv l0)) (ht : Tab w) => total_calls h (gok8 hk.1) (fun i hi => fine_time (gok_fine hk.1) hi) hs.ov ht)
  have HT := Aside0.mk hT_
  clear ho hr0 hc0 hr1 hc1 hT_ hk hs
  obtain ⟨x, hx⟩ : ∃ x, tsum l0 (elems (stM l1 l1.length).ov) = x := ⟨_, rfl⟩
  rw [hx] at HTO ⊢
  clear hx
  obtain ⟨⟨bg, ov, be, cl⟩, hst⟩ : ∃ s, stM l1 l1.length = s := ⟨_, rfl⟩
  rw [hst] at HC HTO
  clear hst
  go_enter Tryd.func23, Tryd.ntmps23
  go_wp2_with (first | (go_at_call 30; refine HC.out.mono ?_; rintro e w1 ⟨M, g, b, rfl, hM, hG, hB⟩; have HB := Aside0.mk hB; have HG := Aside0.mk hG; have cm0 := (cell_blk hM 0).trans (show (mc g ⟨bg, ov, be, cl⟩)[0]? = some (.pointer (some ⟨g, 0, none⟩)) from rfl); have cm2 := (cell_blk hM 2).trans (show (mc g ⟨bg, ov, be, cl⟩)[2]? = some (.int .u16 (ov : Nat)) from rfl); clear hB hG hM))
  refine calm_wp ?_
  refine start_ (n := 10) (S := Drawn0 w1) (ds := [8]) (bs 10 0) (by kernel_rfl) rfl (by kernel_rfl) (Drawn0.step (Drawn0.refl w1) 1) (fun hHeld => ?_)
  obtain ⟨W4, e4⟩ : ∃ x, w1.drew = x := ⟨_, rfl⟩
  rw [e4] at hHeld ⊢
  clear e4
  refine pureN 0 17 (bs 10 1) ?_
  refine pureN 1 18 (bs 10 3) ?_
  refine pureN 2 19 (bs 10 7) ?_
  refine takeN 3 20 (bs 10 15) hHeld rfl (.inl ⟨by rfl, fun w' s => by have s0 := (drawn_cell s _).trans cm0; go_simp; with_reducible rfl⟩) ?_
  refine pureN 4 21 (bs 10 31) ?_
  refine pureN 5 22 (bs 10 63) ?_
  refine pureN 6 23 (bs 10 127) ?_
  refine takeN 7 24 (bs 10 255) hHeld rfl (.inl ⟨by rfl, fun w' s => by have s0 := (drawn_cell s _).trans cm2; go_simp; with_reducible rfl⟩) ?_
  refine last_ (i := 8) (N := some 25) (bs 10 511) rfl rfl (by kernel_rfl) (by decide) (fun K hK => ?_)
  refine goes_ (f := 36) Tryd.func36 rfl rfl #[.pointer (some ⟨g, 0, none⟩), .int .u16 (ov : Nat)] (by rfl) rfl rfl (by first | rfl | (go_simp; try rfl)) ?_
  refine (HTO.out _ _ _ (HG.out.drawn hHeld) (HT.out.below (HB.out.trans (hHeld.below.mono HB.out.size)) HT.out.pos)).mono ?_
  rintro e w7 ⟨rfl, hB7⟩
  refine ⟨_, rfl, hK.out _ _ ?_⟩
  clear hK K
  refine normN ?_
  refine pureN 9 4 (bs 10 1023) ?_
  refine done_ (by kernel_rfl) ?_
  refine calm_out ?_
  have HX := Aside0.mk (HB.out.trans ((hHeld.below.mono HB.out.size).trans (hB7.mono (by rw [drawn_size hHeld]; exact HB.out.size))))
  clear hHeld hB7 cm0 cm2
  go_wp2
  go_ret
  exact ⟨rfl, HX.out⟩
 | false =>
  rw [if_neg (by decide)]
  have HC := Aside0.mk (replay_no ho hr0 hc0 hr1 hc1 hT_)
  clear ho hr0 hc0 hr1 hc1 hT_
  go_enter Tryd.func23, Tryd.ntmps23
  go_wp2_with (first | (go_at_call 30; refine HC.out.mono ?_; rintro e w1 ⟨rfl, hB⟩; have HB := Aside0.mk hB; clear hB))
  go_ret
  exact ⟨rfl, HB.out⟩
end Go.Proofs.YtkafmfabkbmpbaaDoor.G
