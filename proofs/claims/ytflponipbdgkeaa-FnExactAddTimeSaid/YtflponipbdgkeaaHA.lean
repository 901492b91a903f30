/-
  AddTime by hand: its result is clipped.
-/
import Derived.Test.YtflponipbdgkeaaHE
import Derived.Test.YtflponipbdgkeaaHC
import Derived.Test.YtflponipbdgkeaaHClip
import Derived.Test.YtflponipbdgkeaaG0
import Derived.Test.YtflponipbdgkeaaG8
import Derived.Test.YtflponipbdgkeaaG9
namespace Go.Proofs.Ytflponipbdgkeaa.G
open Go.RowKit Go.Proofs.YtflponipbdgkeaaW.PrintWords Go.Proofs.YtflponipbdgkeaaW.PrintLast Go.Proofs.YtflponipbdgkeaaW.PrintMore
set_option linter.unusedVariables false
set_option linter.unusedSimpArgs false

def addP (l : List Int) (a : Int) : List Int × Bool := if vt l = true ∧ okT a = true then ((l ++ [a]).drop (l.length + 1 - 6), true) else ([], false)
def impl_AddTime.f (l0 : List Int) (a1 : Int) : Option (List Int × Bool) := some (addP l0 a1)
theorem timeValid_f (n : Int) : impl_timeValid.f n = some (okT n) := by
  unfold impl_timeValid.f impl_within.f okT
  by_cases h : n ≥ 1
  · rw [if_pos h]
    simp
    omega
  · rw [if_neg h]
    simp
    omega
set_option maxHeartbeats 4000000 in
set_option maxRecDepth 100000 in
theorem impl_AddTime.calls (A0 : Option Addr) (c0 : Nat) (l0 : List Int) (a1 : Int) (r1 : List Int) (r2 : Bool) (w : World) (hr0 : Kd.C (Kd.int .i64) w A0 l0.length l0) (hc0 : l0.length ≤ c0) (h : impl_AddTime.f l0 a1 = some (r1, r2)) :
    Calls Try.prog 13 #[.slice A0 l0.length c0, .int .i64 a1] w fun e w' => ∃ v0_ : Value, e = .returned (.tuple #[v0_, .bool r2]) ∧ Kd.V (Kd.int .i64) 3 w' w.heap.size (fun k_ => (w.heap.size ≤ k_)) v0_ r1 ∧ Below w.heap.size w w' := by
  have HR0 := Aside0.mk hr0
  have HC0 := Aside0.mk hc0
  clear hr0 hc0
  have h' := Option.some.inj h
  clear h
  have hT := timeValid_f a1
  have HT := Aside0.mk hT
  clear hT
  cases hv : vt l0 with
  | false =>
    have hE := earlierValid_f l0
    rw [hv] at hE
    have HE := Aside0.mk hE
    have HP : addP l0 a1 = ([], false) := by unfold addP; rw [if_neg (by rw [hv]; simp)]
    rw [HP] at h'
    cases h'
    clear HP hE hv
    go_enter Try.func13, Try.ntmps13
    go_wp2_with (first | (go_at_call 30; refine (impl_earlierValid.calls A0 c0 l0 _ _ HR0.out HC0.out HE.out).mono ?_; rintro e w' ⟨rfl, hb⟩; have HB := Aside0.mk hb; clear hb))
    go_ret2
    exact ⟨_, rfl, Kd.V_nil _ _ _ _ _, HB.out⟩
  | true =>
    have hE := earlierValid_f l0
    rw [hv] at hE
    have HE := Aside0.mk hE
    have HV := Aside0.mk hv
    clear hE
    cases ho : okT a1 with
    | false =>
      rw [ho] at HT
      have HP : addP l0 a1 = ([], false) := by unfold addP; rw [if_neg (by rw [ho]; simp)]
      rw [HP] at h'
      cases h'
      clear HP hv ho
      go_enter Try.func13, Try.ntmps13
      go_wp2_with (first | (go_at_call 30; refine (impl_earlierValid.calls A0 c0 l0 _ _ HR0.out HC0.out HE.out).mono ?_; rintro e w' ⟨rfl, hb⟩; have HB := Aside0.mk hb; clear hb) | (go_at_call 20; refine (impl_timeValid.calls a1 _ _ HT.out).mono ?_; rintro e w' ⟨rfl, ⟨nd, rfl⟩⟩))
      go_ret2
      exact ⟨_, rfl, Kd.V_nil _ _ _ _ _, pw_below_drewN HB.out _⟩
    | true =>
      rw [ho] at HT
      have HP : addP l0 a1 = ((l0 ++ [a1]).drop (l0.length + 1 - 6), true) := by unfold addP; rw [if_pos ⟨hv, ho⟩]
      rw [HP] at h'
      cases h'
      have hl6 : l0.length ≤ 6 := by
        unfold vt at hv
        simp only [Bool.and_eq_true, decide_eq_true_eq] at hv
        exact hv.1
      have HL6 := Aside0.mk hl6
      clear HP hv ho
      have HCl := Aside0.mk (clone_f l0 (by omega))
      obtain ⟨y, hy⟩ : ∃ y : List Int, y = l0 ++ [a1] := ⟨_, rfl⟩
      have hyl : y.length = l0.length + 1 := by rw [hy]; simp
      rw [← hy]
      have NY := Aside0.mk hy
      have HYL := Aside0.mk hyl
      clear hy hyl hl6
      by_cases h6 : l0.length = 6
      · have hlen : y.length = 7 := by have := HYL.out; omega
        have c0b : decide ((y.length : Int) > 6) = true := decide_eq_true (by omega)
        have H6 := Aside0.mk h6
        have HLEN := Aside0.mk hlen
        clear h6 hlen
        go_enter Try.func13, Try.ntmps13
        go_wp2_with (first | (go_at_call 30; refine (impl_earlierValid.calls A0 c0 l0 _ _ HR0.out HC0.out HE.out).mono ?_; rintro e w' ⟨rfl, hb⟩; have HB := Aside0.mk hb; clear hb) | (go_at_call 20; refine (impl_timeValid.calls a1 _ _ HT.out).mono ?_; rintro e w' ⟨rfl, ⟨nd, rfl⟩⟩; have n0_ := Aside0.mk (pw_below_drewN HB.out nd); clear HB; have HB := n0_; clear n0_) | (go_at_call 31; refine (slices_Clone_int_int.calls A0 c0 l0 _ _ (Kd.C_below HR0.out HB.out) HC0.out HCl.out).mono ?_; rintro e w' ⟨v1, rfl, ho, hb⟩; have HO := Aside0.mk (Kd.R_lower ho (below_size HB.out)); have n0_ := Aside0.mk (below_step HB.out hb); clear HB ho hb; have HB := n0_; clear n0_) | ((with_reducible refine gate_builtin (b := .append) (xs := #[.tmp 16, .tmp 18]) rfl ?_); at_builtin; go_must (refine Kd.R_append (Kd.int .i64) (w0 := w) w.heap.size rfl (.tmp 16) (.tmp 18) 34 3 (.int .i64 0) 8 rfl Try.underlying34 info3 rfl (by decide) (by omega) v1 l0 a1 [.int .i64 a1] (fun _ => True) (fun _ => False) rfl rfl ?aP (fun _ hk => hk.elim) ?aF ?aO ?aB ?aS ?aL ?_; (case aP => exact rfl); (case aB => exact HB.out); (case aF => exact (fun _ _ => trivial)); (case aO => exact HO.out); (case aS => exact (below_size HB.out)); (case aL => have := HL6.out; omega); intro v2 w5 ho hb hg hat; rw [← NY.out] at ho; clear HB HO hg hat; have HB := Aside0.mk hb; clear hb; obtain ⟨A2, c2, e2⟩ := Kd.R_slice ho; subst e2; have hrd := Kd.R_reads' ho; have hcap := hrd.2.1; obtain ⟨ad2, ea2, _⟩ := hrd.2.2.2.2 (by have := HYL.out; omega); subst ea2; clear hrd; have HO := Aside0.mk (Kd.R_F (Kd.R_mono (Kd.R_bound ho) (fun k hk => hk.2.1))); clear ho; obtain ⟨i017, hi017, _, hsz17, _⟩ := info_parts info3; have hcut17 := cut_from (P := Try.prog) 34 3 .i64 Try.underlying34 hi017 1 hsz17 (some ad2) y.length c2 1 (by omega) (by have := HLEN.out; omega); rw [show (1 : Int).toNat = 1 from rfl, if_neg (show ¬ c2 = 1 by have := HLEN.out; omega)] at hcut17)) | (go_at_call 32; refine (clip_calls (ad2.add (1 * 1)) (y.length - 1) (c2 - 1) (by have := HLEN.out; omega) _).mono ?_; rintro e w' ⟨rfl, rfl⟩))
        go_ret2
        have h6 := H6.out
        have hlen := HLEN.out
        have hdl : (y.drop (l0.length + 1 - 6)).length = y.length - 1 := by rw [h6, List.length_drop]
        have hf := Kd.F_cut (c := c2) (m := 1) HO.out (by omega) hcap
        rw [if_neg (show ¬ c2 = 1 by omega)] at hf
        refine ⟨_, rfl, ⟨(some ad2).map (fun x => x.add (1 * 1)), y.length - 1, ?_, by omega, ?_⟩, HB.out⟩
        · rw [hdl]
          first | rfl | (simp only [Option.map_some, Addr.add]; trace_state; rfl)
        · rw [h6]
          exact hf
      · have hlen : y.length ≤ 6 := by have := HYL.out; have := HL6.out; omega
        have c0b : decide ((y.length : Int) > 6) = false := decide_eq_false (by omega)
        have H6 := Aside0.mk h6
        have HLEN := Aside0.mk hlen
        clear h6 hlen
        go_enter Try.func13, Try.ntmps13
        go_wp2_with (first | (go_at_call 30; refine (impl_earlierValid.calls A0 c0 l0 _ _ HR0.out HC0.out HE.out).mono ?_; rintro e w' ⟨rfl, hb⟩; have HB := Aside0.mk hb; clear hb) | (go_at_call 20; refine (impl_timeValid.calls a1 _ _ HT.out).mono ?_; rintro e w' ⟨rfl, ⟨nd, rfl⟩⟩; have n0_ := Aside0.mk (pw_below_drewN HB.out nd); clear HB; have HB := n0_; clear n0_) | (go_at_call 31; refine (slices_Clone_int_int.calls A0 c0 l0 _ _ (Kd.C_below HR0.out HB.out) HC0.out HCl.out).mono ?_; rintro e w' ⟨v1, rfl, ho, hb⟩; have HO := Aside0.mk (Kd.R_lower ho (below_size HB.out)); have n0_ := Aside0.mk (below_step HB.out hb); clear HB ho hb; have HB := n0_; clear n0_) | ((with_reducible refine gate_builtin (b := .append) (xs := #[.tmp 16, .tmp 18]) rfl ?_); at_builtin; go_must (refine Kd.R_append (Kd.int .i64) (w0 := w) w.heap.size rfl (.tmp 16) (.tmp 18) 34 3 (.int .i64 0) 8 rfl Try.underlying34 info3 rfl (by decide) (by omega) v1 l0 a1 [.int .i64 a1] (fun _ => True) (fun _ => False) rfl rfl ?aP (fun _ hk => hk.elim) ?aF ?aO ?aB ?aS ?aL ?_; (case aP => exact rfl); (case aB => exact HB.out); (case aF => exact (fun _ _ => trivial)); (case aO => exact HO.out); (case aS => exact (below_size HB.out)); (case aL => have := HL6.out; omega); intro v2 w5 ho hb hg hat; rw [← NY.out] at ho; clear HB HO hg hat; have HB := Aside0.mk hb; clear hb; obtain ⟨A2, c2, e2⟩ := Kd.R_slice ho; subst e2; have hrd := Kd.R_reads' ho; have hcap := hrd.2.1; obtain ⟨ad2, ea2, _⟩ := hrd.2.2.2.2 (by have := HYL.out; omega); subst ea2; clear hrd; have HO := Aside0.mk (Kd.R_F (Kd.R_mono (Kd.R_bound ho) (fun k hk => hk.2.1))); clear ho)) | (go_at_call 32; refine (clip_calls ad2 y.length c2 (by exact hcap) _).mono ?_; rintro e w' ⟨rfl, rfl⟩))
        go_ret2
        have h6 := H6.out
        have hl6 := HL6.out
        have hd : y.drop (l0.length + 1 - 6) = y := by
          rw [show l0.length + 1 - 6 = 0 by omega, List.drop_zero]
        rw [hd]
        exact ⟨_, rfl, ⟨some ad2, _, rfl, Nat.le_refl _, HO.out⟩, HB.out⟩
end Go.Proofs.Ytflponipbdgkeaa.G
