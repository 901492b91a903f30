/-
  NextUser by hand.
-/
import Derived.Test.YtacenlcdlopjbaaHReady
import Derived.Test.YtacenlcdlopjbaaG0
import Derived.Test.YtacenlcdlopjbaaG1
namespace Go.Proofs.Ytacenlcdlopjbaa.G
open Go.RowKit Go.Proofs.YtacenlcdlopjbaaW.PrintWords Go.Proofs.YtacenlcdlopjbaaW.PrintLast Go.Proofs.YtacenlcdlopjbaaW.PrintMore C
set_option linter.unusedVariables false
set_option linter.unusedSimpArgs false

theorem IsReady.first {ok : Nat → Prop} {b L : Nat} {us : List S31} {w : World} (h : IsReady ok b w L us) {a : Nat} (hn : nextN us = some a) (hok : okAll us) :
    ∃ V m cv, 0 < m ∧ w.cell? ⟨L, 1, none⟩ = some (.slice (some ⟨V, 0, none⟩) m cv) ∧ w.cell? ⟨V, 0, none⟩ = some (.int .i64 a) ∧ Calls Try.prog 35 #[.pointer (some ⟨L, 0, none⟩)] w fun e w' => e = .returned (.int .i64 (m : Nat)) ∧ w' = w := by
  obtain ⟨l, hI, hr⟩ := h
  rcases Nat.eq_zero_or_pos l.length with h0 | h0
  · have := hr.next_none h0
    unfold nextN at hn
    rw [hn] at this
    cases this
  · obtain ⟨n, hn1⟩ : ∃ n, l.length = n + 1 := ⟨l.length - 1, by omega⟩
    have e := hr.next (fun i hi => (hok.waits i hi).2) h0
    unfold nextN at hn
    rw [hn] at e
    obtain rfl := Option.some.inj e
    have hcl : (castL l).length = n + 1 := by rw [castL_length, hn1]
    have hlen := len_n hI hcl
    obtain ⟨vu, vw, h1, h2, h3, h4⟩ := hI
    obtain ⟨V, cv, rfl, hcv, hbV, hltV⟩ := slice_own h4 (by intro e; rw [e] at hcl; simp at hcl) (by decide)
    obtain ⟨ad1, e1, ci⟩ := Kd.at_int (Kd.R_reads' h4).2.2 0 (by omega) (by omega)
    cases e1
    refine ⟨V, n + 1, cv, by omega, by rw [cell_blk h1, ← hcl]; rfl, ?_, hlen⟩
    have hrd := rd_castL l 0
    rw [show ((0 : Nat) : Int) = 0 from rfl] at hrd
    rw [hrd] at ci
    exact ci
theorem IsReady.none_ {ok : Nat → Prop} {b L : Nat} {us : List S31} {w : World} (h : IsReady ok b w L us) (hn : nextN us = none) (hok : okAll us) :
    Calls Try.prog 35 #[.pointer (some ⟨L, 0, none⟩)] w fun e w' => e = .returned (.int .i64 0) ∧ w' = w := by
  obtain ⟨l, hI, hr⟩ := h
  have hl : (castL l).length = 0 := by
    rw [castL_length]
    rcases Nat.eq_zero_or_pos l.length with h0 | h0
    · exact h0
    · have := hr.next (fun i hi => (hok.waits i hi).2) h0
      unfold nextN at hn
      rw [hn] at this
      cases this
  exact len_n hI hl
theorem nat_pos_int {m : Nat} (h : 0 < m) : (0 : Int) < (m : Int) := by omega
theorem nat_pos_ne {m : Nat} (h : 0 < m) : ((m : Int) == 0) = false := beq_eq_false_iff_ne.2 (by omega)
theorem vu_ok {us : List S31} (h : vu us = true) : okAll us ∧ us.length ≤ 5 := ⟨((vu_iff us).1 h).2, ((vu_iff us).1 h).1.2⟩
theorem implVU_any (l : List S31) : impl_ValidUsers.f (l.length + 1) l = some (vu l) := by
  by_cases h : l.length ≤ 5
  · exact implVU l _ (by omega) (by omega)
  · unfold impl_ValidUsers.f vu
    rw [within_eq, Option.bind_some, decide_eq_false (by omega), if_neg (by decide), decide_eq_false (by omega), Bool.false_and]
def nextI (us : List S31) : Int := match nextN us with
  | none => -1
  | some a => (a : Int)
theorem nextI_none {us : List S31} (h : nextN us = none) : nextI us = -1 := by unfold nextI; rw [h]
theorem nextI_some {us : List S31} {a : Nat} (h : nextN us = some a) : nextI us = a := by unfold nextI; rw [h]
def impl_NextUser.f (l0 : List S31) : Option (Int) := some (if vu l0 = true then nextI l0 else -1)
set_option maxHeartbeats 4000000 in
set_option maxRecDepth 1000000 in
theorem impl_NextUser.calls (A0 : Option Addr) (c0 : Nat) (l0 : List S31) (r : Int) (w : World) (hr0 : Kd.C k31 w A0 l0.length l0) (hc0 : l0.length ≤ c0) (h : impl_NextUser.f l0 = some r) :
    Calls Try.prog 21 #[.slice A0 l0.length c0] w fun e w' => e = .returned (.int .i64 r) ∧ Below w.heap.size w w' := by
  have HR0 := Aside0.mk hr0
  have HC0 := Aside0.mk hc0
  have HV := Aside0.mk (implVU_any l0)
  clear hr0 hc0
  obtain rfl := Option.some.inj h
  clear h
  cases hv : vu l0 with
  | false =>
    rw [hv] at HV
    rw [if_neg (by simp)]
    clear hv
    go_enter Try.func21, Try.ntmps21
    go_wp2_with (first | (go_at_call 13; (with_reducible refine (impl_ValidUsers.calls (l0.length + 1) _ _ l0 false _ HR0.out HC0.out HV.out).mono ?_); rintro e w0 ⟨rfl, hb0⟩; have HB0 := Aside0.mk hb0; clear hb0))
    go_ret
    exact ⟨rfl, HB0.out⟩
  | true =>
    rw [hv] at HV
    rw [if_pos rfl]
    obtain ⟨hok, h5⟩ := vu_ok hv
    have HOK := Aside0.mk hok
    have H5 := Aside0.mk (show l0.length ≤ 900 by omega)
    clear hv hok h5
    cases hn : nextN l0 with
    | none =>
      have HN := Aside0.mk hn
      rw [nextI_none hn]
      clear hn
      go_enter Try.func21, Try.ntmps21
      go_wp2_with (first | (go_at_call 13; (with_reducible refine (impl_ValidUsers.calls (l0.length + 1) _ _ l0 true _ HR0.out HC0.out HV.out).mono ?_); rintro e w0 ⟨rfl, hb0⟩; have HB0 := Aside0.mk hb0; clear hb0) | (go_at_call 27; refine (lineOf_ready A0 c0 l0 _ (Kd.C_below HR0.out HB0.out) HOK.out H5.out).mono ?_; rintro e w1 ⟨L, rfl, hI, hb⟩; have HI := Aside0.mk hI; have HB := Aside0.mk hb; clear hI hb) | (go_at_call 35; refine (HI.out.none_ HN.out HOK.out).mono ?_; rintro e w' ⟨rfl, rfl⟩))
      go_ret
      exact ⟨rfl, HB0.out.trans (HB.out.mono HB0.out.size)⟩
    | some a =>
      have HN := Aside0.mk hn
      rw [nextI_some hn]
      clear hn
      go_enter Try.func21, Try.ntmps21
      go_wp2_with (first | (go_at_call 13; (with_reducible refine (impl_ValidUsers.calls (l0.length + 1) _ _ l0 true _ HR0.out HC0.out HV.out).mono ?_); rintro e w0 ⟨rfl, hb0⟩; have HB0 := Aside0.mk hb0; clear hb0) | (go_at_call 27; refine (lineOf_ready A0 c0 l0 _ (Kd.C_below HR0.out HB0.out) HOK.out H5.out).mono ?_; rintro e w1 ⟨L, rfl, hI, hb⟩; have HB := Aside0.mk hb; obtain ⟨V, m, cv, hm0, s1, s2, s3⟩ := hI.first HN.out HOK.out; have HLEN := Aside0.mk s3; have hm1 := nat_pos_int hm0; have hm2 := nat_pos_ne hm0; clear hI hb s3) | (go_at_call 35; refine HLEN.out.mono ?_; rintro e w' ⟨rfl, rfl⟩))
      go_ret
      exact ⟨rfl, HB0.out.trans (HB.out.mono HB0.out.size)⟩
end Go.Proofs.Ytacenlcdlopjbaa.G
