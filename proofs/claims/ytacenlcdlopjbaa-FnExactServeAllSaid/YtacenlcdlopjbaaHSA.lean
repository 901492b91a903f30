/-
  ServeAll by hand.
-/
import Derived.Test.YtacenlcdlopjbaaHS
import Derived.Test.YtacenlcdlopjbaaG0
import Derived.Test.YtacenlcdlopjbaaG1
namespace Go.Proofs.Ytacenlcdlopjbaa.G
open Go.RowKit Go.Proofs.YtacenlcdlopjbaaW.PrintWords Go.Proofs.YtacenlcdlopjbaaW.PrintLast Go.Proofs.YtacenlcdlopjbaaW.PrintMore C
set_option linter.unusedVariables false
set_option linter.unusedSimpArgs false

/-- Who are served, one after the other. -/
def allI : Nat → List S31 → Int → List Int
  | 0, _, _ => []
  | f + 1, us, t => match nextN us with
    | none => []
    | some a => (a : Int) :: allI f (servU us a t) t
/-- How many tasks wait. -/
def sumW (us : List S31) : Nat := (us.map (fun u => u.f2.toNat)).sum
theorem sum_set {us : List S31} : ∀ {a : Nat} (h : a < us.length) (x : S31), ((us.set a x).map (fun u => u.f2.toNat)).sum + us[a].f2.toNat = (us.map (fun u => u.f2.toNat)).sum + x.f2.toNat := by
  induction us with
  | nil => intro a h; simp at h
  | cons u us ih =>
    intro a h x
    cases a with
    | zero => simp; omega
    | succ a =>
      have := ih (a := a) (by simpa using h) x
      simp at this ⊢
      omega
theorem sumW_serv {us : List S31} (hok : okAll us) {a : Nat} (ha : a < us.length) (hw : 0 < wK us a) (t : Int) : sumW (servU us a t) + 1 = sumW us := by
  have h := sum_set ha ⟨(rd_T31 us a).f0, if (rd_T31 us a).f1 + t ≤ 10000 then (rd_T31 us a).f1 + t else 10000, (rd_T31 us a).f2 - 1⟩
  unfold sumW servU
  unfold wK at hw
  rw [rdU_nat us a ha] at hw
  rw [rdU_nat us a ha] at h ⊢
  simp only at h
  omega
theorem le_sum : ∀ {l : List Nat} {x : Nat}, x ∈ l → x ≤ l.sum
  | [], x, h => by simp at h
  | y :: l, x, h => by
    rw [List.sum_cons]
    rcases List.mem_cons.1 h with rfl | h
    · omega
    · have := le_sum h
      omega
theorem sumW_zero {us : List S31} (hok : okAll us) (h : sumW us = 0) : nextN us = none := by
  unfold nextN
  rw [nextGo_none]
  intro i hi hw
  unfold wK at hw
  rw [rdU_nat us i hi] at hw
  have : us[i].f2.toNat ≤ sumW us := by
    unfold sumW
    exact le_sum (List.mem_map.2 ⟨us[i], List.getElem_mem _, rfl⟩)
  omega
theorem sumW_le {us : List S31} (hok : okAll us) : sumW us ≤ 6 * us.length := by
  unfold sumW
  induction us with
  | nil => simp
  | cons u us ih =>
    have h1 := ih (fun x hx => hok x (List.mem_cons_of_mem _ hx))
    have h2 := hok u (List.mem_cons_self)
    unfold okU at h2
    simp only [List.map_cons, List.sum_cons, List.length_cons]
    omega
theorem allI_more {t : Int} (ht : 1 ≤ t ∧ t ≤ 20) : ∀ (f : Nat) (us : List S31), okAll us → sumW us ≤ f → allI (f + 1) us t = allI f us t
  | 0, us, hok, h => by
    have := sumW_zero hok (by omega)
    unfold allI
    rw [this]
  | f + 1, us, hok, h => by
    conv => lhs; unfold allI
    conv => rhs; unfold allI
    cases hn : nextN us with
    | none => rfl
    | some a =>
      obtain ⟨ha, hwa⟩ := nextN_lt hok hn
      have := sumW_serv hok ha hwa t
      simp only
      rw [allI_more ht f _ (hok.serv ht ha hwa) (by omega)]
def allR (us : List S31) (t : Int) : List Int := if vu us = true ∧ 1 ≤ t ∧ t ≤ 20 then allI (sumW us) us t else []
def impl_ServeAll.f (l0 : List S31) (a1 : Int) : Option (List Int) := some (allR l0 a1)
theorem IsReady.okay {ok ok' : Nat → Prop} {b L : Nat} {us : List S31} {w : World} (h : IsReady ok b w L us) (hk : ∀ k, ok k → b ≤ k → k < w.heap.size → ok' k) : IsReady ok' b w L us := by
  obtain ⟨l, ⟨vu, vw, h1, h2, h3, h4⟩, hr⟩ := h
  exact ⟨l, ⟨vu, vw, h1, ⟨h2.1, hk L h2.2 h2.1 (Array.getElem?_eq_some_iff.1 h1).1⟩, Kd.R_mono (Kd.R_bound h3) (fun k hq => hk k hq.1 hq.2.1 hq.2.2.1), Kd.R_mono (Kd.R_bound h4) (fun k hq => hk k hq.1 hq.2.1 hq.2.2.1)⟩, hr⟩
theorem IsReady.lower {ok : Nat → Prop} {b b' L : Nat} {us : List S31} {w : World} (h : IsReady ok b w L us) (hb : b' ≤ b) : IsReady ok b' w L us := by
  obtain ⟨l, ⟨vu, vw, h1, h2, h3, h4⟩, hr⟩ := h
  exact ⟨l, ⟨vu, vw, h1, ⟨Nat.le_trans hb h2.1, h2.2⟩, Kd.R_lower h3 hb, Kd.R_lower h4 hb⟩, hr⟩
theorem IsReady.grown {b L : Nat} {us : List S31} {w w1 : World} {v v1 : Value} (h : IsReady (fun k => some k ≠ v.ownBlock) b w L us) (hg : w.grownBy w1 v.ownBlock) (hat : v1.ownBlock = v.ownBlock ∨ ∃ b, v1.ownBlock = some b ∧ w.heap.size ≤ b) : IsReady (fun k => some k ≠ v1.ownBlock) b w1 L us := by
  have h' : IsReady (fun k => some k ≠ v.ownBlock ∧ some k ≠ v1.ownBlock) b w L us := h.okay (fun k hk _ hlt => by
    refine ⟨hk, ?_⟩
    rcases hat with e | ⟨b', e, hle⟩
    · rw [e]; exact hk
    · rw [e]
      intro hh
      injection hh with hh
      omega)
  obtain ⟨l, ⟨vu, vw, h1, h2, h3, h4⟩, hr⟩ := h'
  exact ⟨l, ⟨vu, vw, (hg.block L (Array.getElem?_eq_some_iff.1 h1).1 h2.2.1).trans h1, ⟨h2.1, h2.2.2⟩, Kd.R_mono (Kd.R_grown h3 hg (fun k hk => hk.1)) (fun _ hk => hk.2), Kd.R_mono (Kd.R_grown h4 hg (fun k hk => hk.1)) (fun _ hk => hk.2)⟩, hr⟩
theorem R_int_off {b : Nat} {w w1 : World} {v : Value} {xs : List Int} (h : Kd.R (Kd.int .i64) 3 w b (fun _ => True) v xs) (hb : Bel (fun k => some k ≠ v.ownBlock) b w w1) : Kd.R (Kd.int .i64) 3 w1 b (fun _ => True) v xs := by
  have h' : Kd.R (Kd.int .i64) 3 w b (fun k => v.ownBlock = some k) v xs := ⟨fun k hk => hk, h.2.choose, h.2.choose_spec.1, h.2.choose_spec.2.imp_ (fun _ _ hp => hp)⟩
  exact Kd.R_mono (Kd.R_step h' (fun k hk hlt => hb.off k hlt (fun hh => hh hk.symm))) (fun _ _ => trivial)
/-- The users behind the service that has just been asked for. -/
def behind (us : List S31) (t : Int) : List S31 := match nextN us with
  | none => us
  | some a => servU us a t
theorem behind_none {us : List S31} {t : Int} (h : nextN us = none) : behind us t = us := by unfold behind; rw [h]
theorem behind_some {us : List S31} {t : Int} {a : Nat} (h : nextN us = some a) : behind us t = servU us a t := by unfold behind; rw [h]
theorem allI_none {us : List S31} {t : Int} {f : Nat} (h : nextN us = none) : allI f us t = [] := by
  cases f with
  | zero => rfl
  | succ f => unfold allI; rw [h]
theorem allI_some {us : List S31} {t : Int} {f : Nat} {a : Nat} (h : nextN us = some a) : allI (f + 1) us t = (a : Int) :: allI f (servU us a t) t := by
  conv => lhs; unfold allI
  rw [h]
/-- The state between two services. -/
def ServeSt (b : Nat) (w0 : World) (L : Nat) (t : Int) (R : List Int) (n : Nat) (f : Nat) (us : List S31) (out : List Int) (vo : Value) (w : World) : Prop :=
  okAll us ∧ us.length = n ∧ sumW us ≤ f ∧ f + out.length ≤ 100 ∧ out ++ allI f us t = R ∧ IsReady (fun k => some k ≠ vo.ownBlock) b w L (behind us t) ∧ Kd.R (Kd.int .i64) 3 w b (fun _ => True) vo out ∧ Below b w0 w ∧ b ≤ w.heap.size
theorem serve_step {b L : Nat} {us : List S31} {vo : Value} {w : World} (h : IsReady (fun k => some k ≠ vo.ownBlock) b w L us) (hok : okAll us) (hlen : us.length ≤ 5) (hb : b ≤ w.heap.size) (t : Int) (ht : 1 ≤ t ∧ t ≤ 20) :
    Calls Try.prog 28 #[.pointer (some ⟨L, 0, none⟩), .int .i64 t] w fun e w' => e = .returned (.int .i64 (nextI us)) ∧ IsReady (fun k => some k ≠ vo.ownBlock) b w' L (behind us t) ∧ Bel (fun k => some k ≠ vo.ownBlock) b w w' := by
  cases hn : nextN us with
  | none =>
    rw [nextI_none hn, behind_none hn]
    refine (serve_none h hn hok t).mono ?_
    rintro e w' ⟨rfl, rfl⟩
    exact ⟨rfl, h, Bel.refl _ _ _⟩
  | some a =>
    rw [nextI_some hn, behind_some hn]
    refine (serve_some h hn hok (by omega) hb t ht).mono ?_
    rintro e w' ⟨rfl, hI, hB⟩
    exact ⟨rfl, hI, hB⟩
set_option maxHeartbeats 16000000 in
set_option maxRecDepth 1000000 in
theorem impl_ServeAll.calls (A0 : Option Addr) (c0 : Nat) (l0 : List S31) (a1 : Int) (r : List Int) (w : World) (hr0 : Kd.C k31 w A0 l0.length l0) (hc0 : l0.length ≤ c0) (h : impl_ServeAll.f l0 a1 = some r) :
    Calls Try.prog 10 #[.slice A0 l0.length c0, .int .i64 a1] w fun e w' => ∃ v0_ : Value, e = .returned (v0_) ∧ Kd.R (Kd.int .i64) 3 w' w.heap.size (fun _ => True) v0_ r ∧ Below w.heap.size w w' := by
  have HR0 := Aside0.mk hr0
  have HC0 := Aside0.mk hc0
  have HV := Aside0.mk (implVU_any l0)
  have HT := Aside0.mk (timeValid_eq a1)
  clear hr0 hc0
  replace h := Option.some.inj h
  unfold allR at h
  cases hv : vu l0 with
  | false =>
    rw [hv] at HV h
    rw [if_neg (by simp)] at h
    subst h
    clear hv
    go_enter Try.func10, Try.ntmps10
    go_wp2_with (first | (go_at_call 13; (with_reducible refine (impl_ValidUsers.calls (l0.length + 1) _ _ l0 false _ HR0.out HC0.out HV.out).mono ?_); rintro e w0 ⟨rfl, hb0⟩; have HB0 := Aside0.mk hb0; clear hb0))
    go_ret
    exact ⟨_, rfl, Kd.R_nil _ _ _ _ _, HB0.out⟩
  | true =>
    rw [hv] at HV h
    obtain ⟨hok, h5⟩ := vu_ok hv
    have HOK := Aside0.mk hok
    have H5 := Aside0.mk h5
    have HS := Aside0.mk (show sumW l0 ≤ 30 by have := sumW_le hok; omega)
    clear hv hok h5
    by_cases ht : 1 ≤ a1 ∧ a1 ≤ 20
    · have HTT := Aside0.mk ht
      rw [decide_eq_true ht] at HT
      rw [if_pos ⟨rfl, ht⟩] at h
      have HRR := Aside0.mk h
      clear ht h
      go_enter Try.func10, Try.ntmps10
      go_wp2_with (first | (go_at_call 13; (with_reducible refine (impl_ValidUsers.calls (l0.length + 1) _ _ l0 true _ HR0.out HC0.out HV.out).mono ?_); rintro e w0 ⟨rfl, hb0⟩; have HB := Aside0.mk hb0; clear hb0) | (go_at_call 26; refine (impl_timeValid.calls a1 _ _ HT.out).mono ?_; rintro e w' ⟨rfl, ⟨nd, rfl⟩⟩; have n0_ := Aside0.mk (pw_below_drewN HB.out nd); clear HB; have HB := n0_; clear n0_) | ((with_reducible refine gate_dst (N := 16) rfl ?_); refine Kd.R_lit (Kd.int .i64) _ 3 ?hg (N := 16) ?hd (xs := ([] : List Int)) (inner := []) (ok := fun _ => True) (okp := fun _ => True) ?hr ?hp (fun _ hk => hk) trivial (Below.refl _ _) (Nat.le_refl _) (by simp) ?_; (case hd => rfl); (case hg => rfl); (case hr => first | (go_simp; done) | (go_simp; rfl)); (case hp => exact (Reps.none _ _)); intro vo w3 ho4 hb hg_ hnew_; clear hg_ hnew_; have n0_ := Aside0.mk (Kd.R_lower ho4 (below_size HB.out)); have n1_ := Aside0.mk (below_step HB.out hb); clear HB; have HO := n0_; have HB := n1_; clear n0_ n1_; clear hb ho4) | (go_at_call 27; refine (lineOf_ready A0 c0 l0 _ (Kd.C_below HR0.out HB.out) HOK.out (by have := H5.out; omega)).mono ?_; rintro e w4 ⟨L, rfl, hI, hb⟩; have HI := Aside0.mk ((hI.okay (ok' := fun k => some k ≠ vo.ownBlock) (fun k _ hbk _ e => absurd (Kd.R_lt HO.out k e.symm) (by omega))).lower (below_size HB.out)); have n0_ := Aside0.mk (Kd.R_below HO.out hb); have n1_ := Aside0.mk (below_step HB.out hb); clear HB HO; have HO := n0_; have HB := n1_; clear n0_ n1_ hI hb) | (go_at_call 28; refine (serve_step HI.out HOK.out H5.out (below_size HB.out) a1 HTT.out).mono ?_; rintro e w5 ⟨rfl, hI, hb⟩; have n0_ := Aside0.mk (R_int_off HO.out hb); have n1_ := Aside0.mk (HB.out.trans hb.below); clear HB HO HI; have HO := n0_; have HB := n1_; have HI := Aside0.mk hI; clear n0_ n1_ hI hb))
      have HST := Aside0.mk (show ServeSt w.heap.size w L a1 r l0.length (sumW l0) l0 [] vo w5 from ⟨HOK.out, rfl, Nat.le_refl _, by have := HS.out; simp; omega, by rw [← HRR.out]; rfl, HI.out, HO.out, HB.out, below_size HB.out⟩)
      clear HB HO HI HRR HOK HR0 HC0 HV HS
      go_loopg [5, 7] (sumW l0) (fun f v5 v7 w' => ∃ (us : List S31) (out : List Int) (vo : Value), v5 = vo ∧ v7 = .int .i64 (nextI us) ∧ Aside0 (ServeSt w.heap.size w L a1 r l0.length f us out vo w'))
      case atStart => exact ⟨l0, [], vo, rfl, rfl, HST⟩
      case round =>
        obtain ⟨us, out, v1, rfl, rfl, HST2⟩ := hrel
        clear HST
        obtain ⟨hok, hlen, hsum, hf, hall, hI, hO, hB, hsz⟩ := HST2.out
        have HLEN := Aside0.mk (show us.length ≤ 5 by have := H5.out; omega)
        have HL0 := Aside0.mk hlen
        clear hlen
        cases hn : nextN us with
        | none =>
          have HX := Aside0.mk (show out = r by rw [← hall, allI_none hn, List.append_nil])
          have HO := Aside0.mk hO
          have HB := Aside0.mk hB
          obtain ⟨A1, c1, e1⟩ := Kd.R_slice hO
          subst e1
          rw [nextI_none hn]
          clear hok hsum hf hall hI hO hB hsz hn HST2
          go_wp2
          go_ret
          exact ⟨_, rfl, HX.out ▸ HO.out, HB.out⟩
        | some a =>
          obtain ⟨ha, hwa⟩ := nextN_lt hok hn
          obtain ⟨f', hf'⟩ : ∃ f', gk = f' + 1 := ⟨gk - 1, by have := sumW_serv hok ha hwa a1; omega⟩
          subst hf'
          have HOK2 := Aside0.mk (hok.serv HTT.out ha hwa)
          have HS2 := Aside0.mk (show sumW (servU us a a1) ≤ f' by have := sumW_serv hok ha hwa a1; omega)
          have HALL := Aside0.mk (show (out ++ [(a : Int)]) ++ allI f' (servU us a a1) a1 = r by rw [← hall, allI_some hn]; simp)
          rw [behind_some hn] at hI
          have HI := Aside0.mk hI
          have HO := Aside0.mk hO
          have HB := Aside0.mk hB
          have HZ := Aside0.mk hsz
          have HF := Aside0.mk hf
          have HL5 := Aside0.mk (show (servU us a a1).length ≤ 5 ∧ (servU us a a1).length = l0.length by rw [servU_length]; exact ⟨HLEN.out, HL0.out⟩)
          obtain ⟨A1, c1, e1⟩ := Kd.R_slice hO
          subst e1
          rw [nextI_some hn]
          have hge : decide ((a : Int) ≥ 0) = true := decide_eq_true (by omega)
          have hge' : decide (0 ≤ (a : Int)) = true := decide_eq_true (by omega)
          clear hok hsum hf hall hI hO hB hsz hn HST2 ha hwa
          go_wp2_with (first | ((with_reducible refine gate_builtin (b := .append) (xs := #[.tmp 27, .tmp 29]) rfl ?_); at_builtin; go_must (refine Kd.R_append (Kd.int .i64) (w0 := w) w.heap.size rfl (.tmp 27) (.tmp 29) 26 3 (.int .i64 0) 8 rfl Try.underlying26 info3 rfl (by decide) (by omega) (.slice A1 out.length c1) out (a : Int) [.int .i64 a] (fun _ => True) (fun _ => False) rfl rfl ?aP (fun _ hk => hk.elim) ?aF ?aO ?aB ?aS ?aL ?_; (case aP => exact rfl); (case aB => exact HB.out); (case aF => exact (fun _ _ => trivial)); (case aO => exact HO.out); (case aS => exact HZ.out); (case aL => have := HF.out; omega); intro v2 w6 ho hb hg hat; have n0_ := Aside0.mk (HI.out.grown hg hat); have HO2 := Aside0.mk ho; have HB2 := Aside0.mk hb; have HZ2 := Aside0.mk (below_size hb); clear HI; have HI := n0_; clear n0_ ho hb hg hat HO HB HZ)) | (go_at_call 28; refine (serve_step HI.out HOK2.out HL5.out.1 HZ2.out a1 HTT.out).mono ?_; rintro e w7 ⟨rfl, hI, hb⟩; have n0_ := Aside0.mk (R_int_off HO2.out hb); have n1_ := Aside0.mk (HB2.out.trans hb.below); clear HB2 HO2 HI HZ2; have HO2 := n0_; have HB2 := n1_; have HI := Aside0.mk hI; clear n0_ n1_ hI hb))
          go_roundg f'
          case measure => omega
          case rel => exact ⟨servU us a a1, out ++ [(a : Int)], v2, rfl, rfl, ⟨HOK2.out, HL5.out.2, HS2.out, by have := HF.out; simp; omega, HALL.out, HI.out, HO2.out, HB2.out, below_size HB2.out⟩⟩
    · rw [decide_eq_false ht] at HT
      rw [if_neg (fun hh => ht hh.2)] at h
      subst h
      clear ht
      go_enter Try.func10, Try.ntmps10
      go_wp2_with (first | (go_at_call 13; (with_reducible refine (impl_ValidUsers.calls (l0.length + 1) _ _ l0 true _ HR0.out HC0.out HV.out).mono ?_); rintro e w0 ⟨rfl, hb0⟩; have HB0 := Aside0.mk hb0; clear hb0) | (go_at_call 26; refine (impl_timeValid.calls a1 _ _ HT.out).mono ?_; rintro e w' ⟨rfl, ⟨nd, rfl⟩⟩))
      go_ret
      exact ⟨_, rfl, Kd.R_nil _ _ _ _ _, pw_below_drewN HB0.out _⟩
end Go.Proofs.Ytacenlcdlopjbaa.G
