/-
  ServeUser by hand.
-/
import Derived.Test.YtflponipbdgkeaaHN
import Derived.Test.YtflponipbdgkeaaG0
import Derived.Test.YtflponipbdgkeaaG4
import Derived.Test.YtflponipbdgkeaaG9
namespace Go.Proofs.Ytflponipbdgkeaa.G
open Go.RowKit Go.Proofs.YtflponipbdgkeaaW.PrintWords Go.Proofs.YtflponipbdgkeaaW.PrintLast Go.Proofs.YtflponipbdgkeaaW.PrintMore C
set_option linter.unusedVariables false
set_option linter.unusedSimpArgs false

theorem timeValid_eq (t : Int) : impl_timeValid.f t = some (decide (1 ≤ t ∧ t ≤ 20)) := by
  unfold impl_timeValid.f
  rw [within_eq]
  rfl
theorem IsReady.users {ok : Nat → Prop} {b L : Nat} {us : List S30} {w : World} (h : IsReady ok b w L us) : ∃ A n c, w.cell? ⟨L, 0, none⟩ = some (.slice A n c) ∧ Kd.R k30 30 w b ok (.slice A n c) us := by
  obtain ⟨l, ⟨vu, vw, h1, h2, h3, h4⟩, hr⟩ := h
  obtain ⟨A, c, rfl⟩ := Kd.R_slice h3
  exact ⟨A, _, c, by rw [cell_blk h1]; rfl, h3⟩
def serveR (l0 : List S30) (a1 : Int) : (List S30) × Int × Bool :=
  if vu l0 = true ∧ 1 ≤ a1 ∧ a1 ≤ 20 then match nextN l0 with
    | none => ([], -1, false)
    | some a => (servU l0 a a1, (a : Int), true)
  else ([], -1, false)
def impl_ServeUser.f (l0 : List S30) (a1 : Int) : Option ((List S30) × Int × Bool) := some (serveR l0 a1)
set_option maxHeartbeats 8000000 in
set_option maxRecDepth 1000000 in
theorem impl_ServeUser.calls (A0 : Option Addr) (c0 : Nat) (l0 : List S30) (a1 : Int) (r1 : List S30) (r2 : Int) (r3 : Bool) (w : World) (hr0 : Kd.C k30 w A0 l0.length l0) (hc0 : l0.length ≤ c0) (h : impl_ServeUser.f l0 a1 = some (r1, r2, r3)) :
    Calls Try.prog 6 #[.slice A0 l0.length c0, .int .i64 a1] w fun e w' => ∃ v0_ : Value, e = .returned (.tuple #[v0_, .int .i64 r2, .bool r3]) ∧ Kd.R k30 30 w' w.heap.size (fun _ => True) v0_ r1 ∧ Below w.heap.size w w' := by
  have HR0 := Aside0.mk hr0
  have HC0 := Aside0.mk hc0
  have HV := Aside0.mk (implVU_any l0)
  have HT := Aside0.mk (timeValid_eq a1)
  clear hr0 hc0
  replace h := Option.some.inj h
  unfold serveR at h
  cases hv : vu l0 with
  | false =>
    rw [hv] at HV h
    rw [if_neg (by simp)] at h
    injection h with h1 h2
    injection h2 with h2 h3
    subst h1 h2 h3
    clear hv
    go_enter Try.func6, Try.ntmps6
    go_wp2_with (first | (go_at_call 10; (with_reducible refine (impl_ValidUsers.calls (l0.length + 1) _ _ l0 false _ HR0.out HC0.out HV.out).mono ?_); rintro e w0 ⟨rfl, hb0⟩; have HB0 := Aside0.mk hb0; clear hb0))
    go_ret3
    exact ⟨_, rfl, Kd.R_nil _ _ _ _ _, HB0.out⟩
  | true =>
    rw [hv] at HV h
    obtain ⟨hok, h5⟩ := vu_ok hv
    have HOK := Aside0.mk hok
    have H5 := Aside0.mk (show l0.length ≤ 900 by omega)
    clear hv hok h5
    by_cases ht : 1 ≤ a1 ∧ a1 ≤ 20
    · have HTT := Aside0.mk ht
      rw [decide_eq_true ht] at HT
      rw [if_pos ⟨rfl, ht⟩] at h
      clear ht
      cases hn : nextN l0 with
      | none =>
        rw [hn] at h
        injection h with h1 h2
        injection h2 with h2 h3
        subst h1 h2 h3
        have HN := Aside0.mk hn
        clear hn
        go_enter Try.func6, Try.ntmps6
        go_wp2_with (first | (go_at_call 10; (with_reducible refine (impl_ValidUsers.calls (l0.length + 1) _ _ l0 true _ HR0.out HC0.out HV.out).mono ?_); rintro e w0 ⟨rfl, hb0⟩; have HB0 := Aside0.mk hb0; clear hb0) | (go_at_call 20; refine (impl_timeValid.calls a1 _ _ HT.out).mono ?_; rintro e w' ⟨rfl, ⟨nd, rfl⟩⟩) | (go_at_call 21; refine (lineOf_ready A0 c0 l0 _ (Kd.C_drewN (Kd.C_below HR0.out HB0.out) _) HOK.out H5.out).mono ?_; rintro e w1 ⟨L, rfl, hI, hb⟩; have HI := Aside0.mk hI; have HB := Aside0.mk hb; clear hI hb) | (go_at_call 22; refine (serve_none HI.out HN.out HOK.out a1).mono ?_; rintro e w' ⟨rfl, rfl⟩))
        go_ret3
        exact ⟨_, rfl, Kd.R_nil _ _ _ _ _, (pw_below_drewN HB0.out _).trans (HB.out.mono HB0.out.size)⟩
      | some a =>
        rw [hn] at h
        injection h with h1 h2
        injection h2 with h2 h3
        subst h1 h2 h3
        have HN := Aside0.mk hn
        have hge : decide ((a : Int) < 0) = false := decide_eq_false (by omega)
        clear hn
        go_enter Try.func6, Try.ntmps6
        go_wp2_with (first | (go_at_call 10; (with_reducible refine (impl_ValidUsers.calls (l0.length + 1) _ _ l0 true _ HR0.out HC0.out HV.out).mono ?_); rintro e w0 ⟨rfl, hb0⟩; have HB0 := Aside0.mk hb0; clear hb0) | (go_at_call 20; refine (impl_timeValid.calls a1 _ _ HT.out).mono ?_; rintro e w' ⟨rfl, ⟨nd, rfl⟩⟩) | (go_at_call 21; refine (lineOf_ready A0 c0 l0 _ (Kd.C_drewN (Kd.C_below HR0.out HB0.out) _) HOK.out H5.out).mono ?_; rintro e w1 ⟨L, rfl, hI, hb⟩; have HI := Aside0.mk hI; have HB := Aside0.mk hb; clear hI hb) | (go_at_call 22; refine (serve_some HI.out HN.out HOK.out H5.out HB.out.size a1 HTT.out).mono ?_; rintro e w2 ⟨rfl, hI, hb⟩; have HB2 := Aside0.mk hb; obtain ⟨A2, n2, c2, s1, s2⟩ := hI.users; have HR2 := Aside0.mk s2; clear hI hb s2))
        go_ret3
        exact ⟨_, rfl, Kd.R_lower HR2.out HB0.out.size, ((pw_below_drewN HB0.out _).trans (HB.out.mono HB0.out.size)).trans (HB2.out.below.mono HB0.out.size)⟩
    · rw [decide_eq_false ht] at HT
      rw [if_neg (fun hh => ht hh.2)] at h
      injection h with h1 h2
      injection h2 with h2 h3
      subst h1 h2 h3
      clear ht
      go_enter Try.func6, Try.ntmps6
      go_wp2_with (first | (go_at_call 10; (with_reducible refine (impl_ValidUsers.calls (l0.length + 1) _ _ l0 true _ HR0.out HC0.out HV.out).mono ?_); rintro e w0 ⟨rfl, hb0⟩; have HB0 := Aside0.mk hb0; clear hb0) | (go_at_call 20; refine (impl_timeValid.calls a1 _ _ HT.out).mono ?_; rintro e w' ⟨rfl, ⟨nd, rfl⟩⟩))
      go_ret3
      exact ⟨_, rfl, Kd.R_nil _ _ _ _ _, pw_below_drewN HB0.out _⟩
end Go.Proofs.Ytflponipbdgkeaa.G
