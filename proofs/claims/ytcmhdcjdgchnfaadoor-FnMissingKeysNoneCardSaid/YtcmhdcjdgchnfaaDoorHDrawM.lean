/-
 The generator of MissingKeys' arguments, by hand.
-/
import Derived.Test.YtcmhdcjdgchnfaaDoorHDraw
import Derived.Test.YtcmhdcjdgchnfaaDoorG0
import Derived.Test.YtcmhdcjdgchnfaaDoorG12
import Derived.Test.YtcmhdcjdgchnfaaDoorG13
import Derived.Test.YtcmhdcjdgchnfaaDoorG6
import Derived.Test.YtcmhdcjdgchnfaaDoorG9
namespace Go.Proofs.YtcmhdcjdgchnfaaDoor.G
open Go.RowKit Go.Proofs.YtcmhdcjdgchnfaaDoorW.PrintWords Go.Proofs.YtcmhdcjdgchnfaaDoorW.PrintLast Go.Proofs.YtcmhdcjdgchnfaaDoorW.PrintMore C
set_option linter.unusedVariables false
set_option linter.unusedSimpArgs false

/-- Some keys are changed: the last d of a list. -/
def dmk (k : Nat) (b : List Int) : Nat → List Int → Int → Option (List Int × Int)
 | 0, st, p => some (st, p)
 | d + 1, st, p => (spec_reader_pick.f k b p 3).bind fun x => if x.1 = 0 then (spec_reader_pick.f k b x.2 250).bind fun y => dmk k b d (st.set (st.length - (d + 1)) y.1) y.2 else dmk k b d st x.2
def padTo (st : List Int) : List Int := st ++ List.replicate (21 - st.length) 5
def kfuel : Nat := 2000
def spec_DrawMissingKeys.f (l0 : List Int) : Option (List S69 × List Int × List Int) :=
 (spec_newReader.f l0).bind fun x1 => (spec_anyGraph.f gfuel x1.1 x1.2).bind fun x2 => (spec_someInputs.f gfuel x1.1 x2.2 x2.1).bind fun x3 => (spec_TaskKeys.f kfuel x2.1 x3.1).bind fun x4 =>
 (dmk gfuel x1.1 x4.length x4 x3.2).bind fun x5 => (spec_reader_pick.f gfuel x1.1 x5.2 16).bind fun x6 => some (x2.1, x3.1, if x6.1 = 0 then padTo x5.1 else x5.1)
def lenOf : Value → Nat
 | .slice _ n _ => n
 | _ => 0
theorem dmk_len (k : Nat) (b : List Int) : ∀ (d : Nat) (st : List Int) (p : Int) (r : List Int) (q : Int), dmk k b d st p = some (r, q) → r.length = st.length
 | 0, st, p, r, q, h => by
  injection h with h
  injection h with h _
  rw [h]
 | d + 1, st, p, r, q, h => by
  unfold dmk at h
  obtain ⟨⟨v, p2⟩, h1, h⟩ := Option.bind_eq_some_iff.1 h
  simp only at h
  by_cases c : v = 0
  ·rw [if_pos c] at h
   obtain ⟨⟨v2, p3⟩, h2, h⟩ := Option.bind_eq_some_iff.1 h
   have := dmk_len k b d _ _ r q h
   simpa using this
  ·rw [if_neg c] at h
   exact dmk_len k b d _ _ r q h
set_option maxHeartbeats 16000000 in
set_option maxRecDepth 1000000 in
theorem spec_DrawMissingKeys.calls (A0 : Option Addr) (c0 : Nat) (l0 : List Int) (r1 : List S69) (r2 : List Int) (r3 : List Int) (w : World) (hr0 : Kd.C (Kd.int .u8) w A0 l0.length l0) (hc0 : l0.length ≤ c0) (h : spec_DrawMissingKeys.f l0 = some (r1, r2, r3)) :
  Calls Tryd.prog 15 #[.slice A0 l0.length c0] w fun e w' => ∃ v0_ v1_ v2_ : Value, e = .returned (.tuple #[v0_, v1_, v2_]) ∧ Kd.V k69 69 w' w.heap.size (fun k_ => (w.heap.size ≤ k_)) v0_ r1 ∧ Kd.V (Kd.int .i64) 3 w' w.heap.size (fun k_ => (w.heap.size ≤ k_)) v1_ r2 ∧ Kd.V (Kd.int .i64) 3 w' w.heap.size (fun k_ => (w.heap.size ≤ k_)) v2_ r3 ∧ Below w.heap.size w w' := by
 unfold spec_DrawMissingKeys.f at h
 obtain ⟨⟨b, p⟩, h1, h⟩ := Option.bind_eq_some_iff.1 h
 obtain ⟨⟨xs, p2⟩, h2, h⟩ := Option.bind_eq_some_iff.1 h
 obtain ⟨⟨ys, p3⟩, h3, h⟩ := Option.bind_eq_some_iff.1 h
 obtain ⟨ks, h4, h⟩ := Option.bind_eq_some_iff.1 h
 obtain ⟨⟨stF, p5⟩, h5, h⟩ := Option.bind_eq_some_iff.1 h
 obtain ⟨⟨vz, p6⟩, h6, h⟩ := Option.bind_eq_some_iff.1 h
 simp only at h2 h3 h4 h5 h6 h
 injection h with h
 injection h with ha hb
 injection hb with hb hc
 subst ha hb
 have HR0 := Aside0.mk hr0
 have HC0 := Aside0.mk hc0
 have HX := Aside0.mk (And.intro h1 (And.intro h2 (And.intro h3 h4)))
 have H6 := Aside0.mk h6
 have HRES := Aside0.mk hc
 have HFL := Aside0.mk (dmk_len _ _ _ _ _ _ _ h5)
 obtain ⟨n, hn⟩ : ∃ n, ks.length = n := ⟨_, rfl⟩
 have HN := Aside0.mk hn
 rw [hn] at h5 HFL
 have H5 := Aside0.mk h5
 clear hr0 hc0 h1 h2 h3 h4 h5 h6 hc hn
 go_enter Tryd.func15, Tryd.ntmps15
 go_wp2_with (first | (go_at_call 12; refine (spec_TaskKeys.calls kfuel A2 c2 xs A3 c3 ys ks _ (Kd.V_reads' HV3.out).2.2 (Kd.V_reads' HV3.out).2.1 (Kd.V_reads' HQ3.out).2.2 (Kd.V_reads' HQ3.out).2.1 HX.out.2.2.2).mono ?_; rintro e w4 ⟨v4, rfl, hR, hB4⟩; obtain ⟨A8, c8, e8⟩ := Kd.R_slice hR; subst e8; rw [HN.out] at hR ⊢; have HV4 := Aside0.mk (Kd.V_below HV3.out hB4); have HQ4 := Aside0.mk (Kd.V_below HQ3.out hB4); have HI4 := Aside0.mk (IsS73.below HI3.out hB4); have HB4 := Aside0.mk (below_step HB3.out hB4); have HR4 := Aside0.mk (Kd.R_mono (Kd.R_bound hR) (ok' := fun k => w3.heap.size ≤ k) (fun k hk => hk.2.1)); have HZ4 := Aside0.mk hB4.size; clear hR hB4 HV3 HQ3 HI3 HB3) | (go_at_call 30; refine (spec_someInputs.calls gfuel g b p2 A2 c2 xs ys p3 w _ HI2.out HB2.out (Kd.C_foot_ownV HV2.out (fun k_ hk e => Nat.lt_irrefl _ (Nat.lt_of_lt_of_le HG.out.1 (e ▸ hk)))) (Kd.V_reads' HV2.out).2.1 HX.out.2.2.1).mono ?_; rintro e w3 ⟨v3, rfl, hQ3, hI3, hB3, hK3⟩; obtain ⟨A3, c3, e3, _⟩ := Kd.Q_slice hQ3; subst e3; have HV3 := Aside0.mk (Kd.V_mono (Kd.V_keep (Kd.V_bound HV2.out) hK3 (fun k_ hk e => Nat.lt_irrefl _ (Nat.lt_of_lt_of_le HG.out.1 (e ▸ hk.1)))) (ok' := fun k => w1.heap.size ≤ k ∧ k < w3.heap.size) (fun k hk => ⟨hk.1, Nat.lt_of_lt_of_le hk.2 hK3.1⟩)); have HQ3 := Aside0.mk (Kd.V_mono (Kd.V_bound (Kd.Q_V (base' := w.heap.size) (Kd.Q_mono (Kd.Q_bound hQ3) (ok' := fun k => w2.heap.size ≤ k) (fun k hk => hk.2.1)))) (ok' := fun k => w1.heap.size ≤ k ∧ k < w3.heap.size) (fun k hk => ⟨Nat.le_trans HG.out.2.2 hk.1, hk.2⟩)); have HI3 := Aside0.mk hI3; have HB3 := Aside0.mk hB3; have HW3 := Aside0.mk (Nat.le_trans HG.out.2.2 hK3.1); clear hQ3 hI3 hB3 hK3 HV2 HI2 HB2) | (go_at_call 29; refine (spec_anyGraph.calls gfuel g b p xs p2 w _ HI1.out HB1.out HX.out.2.1).mono ?_; rintro e w2 ⟨v2, rfl, hV2, hI2, hB2, hK2⟩; obtain ⟨A2, c2, e2⟩ := Kd.V_slice hV2; subst e2; have HG := Aside0.mk (show g < w1.heap.size ∧ w.heap.size ≤ w1.heap.size ∧ w1.heap.size ≤ w2.heap.size from ⟨IsS73.lt HI1.out, HB1.out.size, hK2.1⟩); have HV2 := Aside0.mk hV2; have HI2 := Aside0.mk hI2; have HB2 := Aside0.mk hB2; clear hV2 hI2 hB2 hK2 HI1 HB1) | (go_at_call 28; refine (spec_newReader.calls A0 c0 l0 b p w _ (Below.refl _ _) HR0.out HC0.out HX.out.1).mono ?_; rintro e w1 ⟨g, rfl, hI1, hB1, _⟩; have HI1 := Aside0.mk hI1; have HB1 := Aside0.mk hB1; clear hI1 hB1))
 go_loopw [9] (fun v9 W => ∃ (j : Nat) (st : List Int) (q : Int), v9 = .int .i64 (j : Nat) ∧ Aside0 (j ≤ n) ∧ Aside0 (dmk gfuel b (n - j) st q = some (stF, p5)) ∧ Aside0 (Kd.R (Kd.int .i64) 3 W w3.heap.size (fun k => w3.heap.size ≤ k) (.slice A8 n c8) st) ∧ Aside0 (IsS73 w W g b q) ∧ Aside0 (Below w.heap.size w W) ∧ Aside0 (Kd.V k69 69 W w.heap.size (fun k => w1.heap.size ≤ k ∧ k < w3.heap.size) (.slice A2 xs.length c2) xs) ∧ Aside0 (Kd.V (Kd.int .i64) 3 W w.heap.size (fun k => w1.heap.size ≤ k ∧ k < w3.heap.size) (.slice A3 ys.length c3) ys) ∧ Aside0 (w3.heap.size ≤ W.heap.size)) (fun v9 _ => n - (intOf v9).toNat)
 case atStart => exact ⟨0, ks, p3, rfl, ⟨Nat.zero_le _⟩, H5, HR4, HI4, HB4, HV4, HQ4, HZ4⟩
 case round =>
  obtain ⟨j, st, q, rfl, HJ, HD, HR, HI, HB, HV, HQ, HZ⟩ := hrel
  have hj := HJ.out
  have hn8 : (n : Int) ≤ 9223372036854775807 := by
   have h1 := (Kd.R_reads' HR.out).1
   have h2 := (Kd.R_reads' HR.out).2.2.2.1
   omega
  by_cases hlt : j < n
  ·have hd := HD.out
   obtain ⟨d, hde⟩ : ∃ d, n - j = d + 1 := ⟨n - j - 1, by omega⟩
   rw [hde] at hd
   unfold dmk at hd
   obtain ⟨⟨v, q2⟩, hp1, hd⟩ := Option.bind_eq_some_iff.1 hd
   simp only at hd
   have hstl := (Kd.R_reads' HR.out).1
   have qj : (j : Int) < (n : Int) := by omega
   have HLT := Aside0.mk hlt
   have HP1 := Aside0.mk hp1
   by_cases c : v = 0
   ·subst c
    rw [if_pos rfl] at hd
    obtain ⟨⟨v2, q3⟩, hp2, hd⟩ := Option.bind_eq_some_iff.1 hd
    simp only at hd
    have HP2 := Aside0.mk hp2
    rw [show st.length - (d + 1) = j by omega] at hd
    have HD2 := Aside0.mk (show dmk gfuel b (n - (j + 1)) (st.set j v2) q3 = some (stF, p5) by rw [show n - (j + 1) = d by omega]; exact hd)
    obtain ⟨go, c', e', hgo, _⟩ := Kd.R_form HR.out (by omega)
    injection e' with e1 e2 e3
    subst e1
    have HGO := Aside0.mk hgo
    clear hj hd hde hp1 hp2 hstl hlt hgo e2 e3
    have hj8 : (j : Int) < 9223372036854775807 := by omega
    go_wp2_with (first | (go_at_call 39; refine (spec_reader_pick.calls gfuel g b _ 250 _ _ w _ HI7.out HB7.out HP2.out).mono ?_; rintro e w8 ⟨rfl, hI8, hB8, hK8⟩; have hR8 := Kd.R_keep HR7.out hK8 (fun k hk e => by have := HG.out; have := HW3.out; omega); have hcc := Kd.R_celln (0 : Int) hR8 (j : Int) (by omega) qj; rw [Int.toNat_natCast] at hcc; have hc8 := hcc.1; have hf8 := hcc.2; have HI8 := Aside0.mk hI8; have HB8 := Aside0.mk hB8; have HR8 := Aside0.mk hR8; have HV8 := Aside0.mk (Kd.V_keep HV7.out hK8 (fun k_ hk e => Nat.lt_irrefl _ (Nat.lt_of_lt_of_le HG.out.1 (e ▸ hk.1)))); have HQ8 := Aside0.mk (Kd.V_keep HQ7.out hK8 (fun k_ hk e => Nat.lt_irrefl _ (Nat.lt_of_lt_of_le HG.out.1 (e ▸ hk.1)))); have HZ8 := Aside0.mk (Nat.le_trans HZ7.out hK8.1); clear hcc hI8 hB8 hK8 hR8 HI7 HB7 HR7 HV7 HQ7 HZ7) | (go_at_call 39; refine (spec_reader_pick.calls gfuel g b _ 3 _ _ w _ HI.out HB.out HP1.out).mono ?_; rintro e w7 ⟨rfl, hI7, hB7, hK7⟩; have HI7 := Aside0.mk hI7; have HB7 := Aside0.mk hB7; have HR7 := Aside0.mk (Kd.R_keep HR.out hK7 (fun k hk e => by have := HG.out; have := HW3.out; omega)); have HV7 := Aside0.mk (Kd.V_keep HV.out hK7 (fun k_ hk e => Nat.lt_irrefl _ (Nat.lt_of_lt_of_le HG.out.1 (e ▸ hk.1)))); have HQ7 := Aside0.mk (Kd.V_keep HQ.out hK7 (fun k_ hk e => Nat.lt_irrefl _ (Nat.lt_of_lt_of_le HG.out.1 (e ▸ hk.1)))); have HZ7 := Aside0.mk (Nat.le_trans HZ.out hK7.1); clear hI7 hB7 hK7 HI HB HR HV HQ HZ))
    go_roundw
    case measure =>
     have := HLT.out
     simp [intOf]
     omega
    case rel =>
     have hput := Kd.R_putn HR8.out (j : Int) v2
     rw [Int.toNat_natCast] at hput
     have hsz := (Below.setCell (Below.refl 0 w8) (p := ⟨go, j, none⟩) (Nat.zero_le _) (.int .i64 v2)).size
     exact ⟨j + 1, st.set j v2, q3, by rw [Int.natCast_succ], ⟨HLT.out⟩, HD2, ⟨hput⟩, ⟨IsS73.far HI8.out (p := ⟨go, j, none⟩) (fun e => by have := HG.out; have := HW3.out; have := HGO.out; have e' : g = go := e; omega) _⟩, ⟨HB8.out.setCell (p := ⟨go, j, none⟩) (by have := HG.out; have := HW3.out; have := HGO.out; show w.heap.size ≤ go; omega) _⟩, ⟨Kd.V_far HV8.out (p := ⟨go, j, none⟩) (fun k hk e => by have := HGO.out; have e' : k = go := e; omega) _⟩, ⟨Kd.V_far HQ8.out (p := ⟨go, j, none⟩) (fun k hk e => by have := HGO.out; have e' : k = go := e; omega) _⟩, ⟨Nat.le_trans HZ8.out hsz⟩⟩
   ·rw [if_neg c] at hd
    have hbv : (v == 0) = false := beq_eq_false_iff_ne.2 c
    have HD2 := Aside0.mk (show dmk gfuel b (n - (j + 1)) st q2 = some (stF, p5) by rw [show n - (j + 1) = d by omega]; exact hd)
    clear hj hd hde hp1 hstl hlt c
    have hj8 : (j : Int) < 9223372036854775807 := by omega
    go_wp2_with (first | (go_at_call 39; refine (spec_reader_pick.calls gfuel g b _ 3 _ _ w _ HI.out HB.out HP1.out).mono ?_; rintro e w7 ⟨rfl, hI7, hB7, hK7⟩; have HI7 := Aside0.mk hI7; have HB7 := Aside0.mk hB7; have HR7 := Aside0.mk (Kd.R_keep HR.out hK7 (fun k hk e => by have := HG.out; have := HW3.out; omega)); have HV7 := Aside0.mk (Kd.V_keep HV.out hK7 (fun k_ hk e => Nat.lt_irrefl _ (Nat.lt_of_lt_of_le HG.out.1 (e ▸ hk.1)))); have HQ7 := Aside0.mk (Kd.V_keep HQ.out hK7 (fun k_ hk e => Nat.lt_irrefl _ (Nat.lt_of_lt_of_le HG.out.1 (e ▸ hk.1)))); have HZ7 := Aside0.mk (Nat.le_trans HZ.out hK7.1); clear hI7 hB7 hK7 HI HB HR HV HQ HZ))
    go_roundw
    case measure =>
     have := HLT.out
     simp [intOf]
     omega
    case rel => exact ⟨j + 1, st, q2, by rw [Int.natCast_succ], ⟨HLT.out⟩, HD2, HR7, HI7, HB7, HV7, HQ7, HZ7⟩
  ·have hjn : j = n := by omega
   have hd := HD.out
   rw [show n - j = 0 by omega] at hd
   injection hd with hd
   injection hd with hd1 hd2
   subst hd1 hd2
   have hstl := (Kd.R_reads' HR.out).1
   have HSL := Aside0.mk hstl.symm
   clear hj hlt hstl HD
   subst hjn
   by_cases c : vz = 0
   ·subst c
    go_wp2_with (first | (go_at_call 39; refine (spec_reader_pick.calls gfuel g b _ 16 _ _ w _ HI.out HB.out H6.out).mono ?_; rintro e w7 ⟨rfl, hI7, hB7, hK7⟩; have HB7 := Aside0.mk hB7; have HR7 := Aside0.mk (Kd.R_keep HR.out hK7 (fun k hk e => by have := HG.out; have := HW3.out; omega)); have HV7 := Aside0.mk (Kd.V_keep HV.out hK7 (fun k_ hk e => Nat.lt_irrefl _ (Nat.lt_of_lt_of_le HG.out.1 (e ▸ hk.1)))); have HQ7 := Aside0.mk (Kd.V_keep HQ.out hK7 (fun k_ hk e => Nat.lt_irrefl _ (Nat.lt_of_lt_of_le HG.out.1 (e ▸ hk.1)))); have HZ7 := Aside0.mk (Nat.le_trans HZ.out hK7.1); clear hI7 hB7 hK7 HI HB HR HV HQ HZ))
    go_loopw [8] (fun v8 W => ∃ (m c : Nat) (A : Option Addr), v8 = .slice A (j + m) c ∧ Aside0 (m ≤ 21 - j) ∧ Aside0 (Kd.R (Kd.int .i64) 3 W w3.heap.size (fun k => w3.heap.size ≤ k) (.slice A (j + m) c) (st ++ List.replicate m 5)) ∧ Aside0 (Below w.heap.size w W) ∧ Aside0 (Kd.V k69 69 W w.heap.size (fun k => w1.heap.size ≤ k ∧ k < w3.heap.size) (.slice A2 xs.length c2) xs) ∧ Aside0 (Kd.V (Kd.int .i64) 3 W w.heap.size (fun k => w1.heap.size ≤ k ∧ k < w3.heap.size) (.slice A3 ys.length c3) ys) ∧ Aside0 (w3.heap.size ≤ W.heap.size)) (fun v8 _ => 21 - lenOf v8)
    case atStart => exact ⟨0, c8, A8, rfl, ⟨Nat.zero_le _⟩, ⟨by simpa using HR7.out⟩, HB7, HV7, HQ7, HZ7⟩
    case round =>
     obtain ⟨m, c, A, rfl, HM, HR, HB, HV, HQ, HZ⟩ := hrel
     have hm := HM.out
     by_cases hlt : j + m < 21
     ·have q21 : ((j + m : Nat) : Int) < 21 := by omega
      have hlen : ((st ++ List.replicate m 5).length + 1) * 8 ≤ 140737488355328 := by
       have := HSL.out
       simp
       omega
      have HLT := Aside0.mk (show m + 1 ≤ 21 - j ∧ j + m < 21 by omega)
      have HEQ := Aside0.mk (show (st ++ List.replicate m 5) ++ [(5 : Int)] = st ++ List.replicate (m + 1) 5 by rw [List.append_assoc, List.replicate_succ'])
      have HL := Aside0.mk (show (st ++ List.replicate m (5 : Int)).length = j + m by have := HSL.out; simp; omega)
      clear hm hlt
      go_wp2_with (first | ((with_reducible refine gate_builtin (b := .append) (xs := #[.tmp 40, .tmp 41]) rfl ?_); at_builtin; go_must (refine Kd.R_append (Kd.int .i64) (w0 := wr) w3.heap.size rfl (.tmp 40) (.tmp 41) 24 3 (.int .i64 0) 8 rfl Tryd.underlying24 info3 rfl (by decide) (by omega) (.slice A (j + m) c) (st ++ List.replicate m 5) (5 : Int) [.int .i64 5] (fun k => w3.heap.size ≤ k) (fun _ => False) rfl rfl rfl (fun _ hk => hk.elim) (fun k hk => Nat.le_trans HZ.out hk) HR.out (Below.refl _ _) HZ.out hlen ?_; intro v2 w7' ho hb hg hat; rw [HEQ.out] at ho; obtain ⟨A7, c7, e7⟩ := Kd.R_slice ho; have hl7 : (st ++ List.replicate (m + 1) (5 : Int)).length = j + (m + 1) := (by have := HSL.out; simp; omega); rw [hl7] at e7; subst e7; have HO7 := Aside0.mk ho; have hrow : ∀ k, (Value.slice A (j + m) c).ownBlock = some k → w3.heap.size ≤ k := (fun k e => HR.out.1 k e); have HB9 := Aside0.mk (HB.out.grown hg HB.out.size (fun k e => by have := hrow k e; have := HG.out; have := HW3.out; omega)); have HV9 := Aside0.mk (Kd.V_grown HV.out hg (fun k hk e => by have := hrow k e.symm; omega)); have HQ9 := Aside0.mk (Kd.V_grown HQ.out hg (fun k hk e => by have := hrow k e.symm; omega)); have HZ9 := Aside0.mk (Nat.le_trans HZ.out hg.size); clear ho hb hg hat hrow hl7 HB HV HQ HZ HR)))
      go_roundw
      case measure =>
       have := HLT.out
       simp [lenOf]
       omega
      case rel => exact ⟨m + 1, c7, A7, rfl, ⟨HLT.out.1⟩, HO7, HB9, HV9, HQ9, HZ9⟩
     ·have q21 : ¬ ((j + m : Nat) : Int) < 21 := by omega
      have HE := Aside0.mk (show st ++ List.replicate m 5 = r3 by
       have h : padTo st = r3 := by simpa using HRES.out
       rw [← h]
       unfold padTo
       rw [HSL.out, show m = 21 - j by omega])
      clear hm hlt
      go_wp2
      refine bodyPost_ret (results_tmp3 rfl _ _ _) rfl ?_
      exact ⟨_, _, _, rfl, Kd.V_mono HV.out (fun k hk => Nat.le_trans HG.out.2.1 hk.1), Kd.V_mono HQ.out (fun k hk => Nat.le_trans HG.out.2.1 hk.1), Kd.V_mono (Kd.R_V (by rw [← HE.out]; exact HR.out)) (fun k hk => by have := HG.out; have := HW3.out; omega), HB.out⟩
   ·have hbv : (vz == 0) = false := beq_eq_false_iff_ne.2 c
    have HE := Aside0.mk (show st = r3 by have h := HRES.out; rw [if_neg c] at h; exact h)
    clear c
    go_wp2_with (first | (go_at_call 39; refine (spec_reader_pick.calls gfuel g b _ 16 _ _ w _ HI.out HB.out H6.out).mono ?_; rintro e w7 ⟨rfl, hI7, hB7, hK7⟩; have HB7 := Aside0.mk hB7; have HR7 := Aside0.mk (Kd.R_keep HR.out hK7 (fun k hk e => by have := HG.out; have := HW3.out; omega)); have HV7 := Aside0.mk (Kd.V_keep HV.out hK7 (fun k_ hk e => Nat.lt_irrefl _ (Nat.lt_of_lt_of_le HG.out.1 (e ▸ hk.1)))); have HQ7 := Aside0.mk (Kd.V_keep HQ.out hK7 (fun k_ hk e => Nat.lt_irrefl _ (Nat.lt_of_lt_of_le HG.out.1 (e ▸ hk.1)))); clear hI7 hB7 hK7 HI HB HR HV HQ HZ))
    refine bodyPost_ret (results_tmp3 rfl _ _ _) rfl ?_
    exact ⟨_, _, _, rfl, Kd.V_mono HV7.out (fun k hk => Nat.le_trans HG.out.2.1 hk.1), Kd.V_mono HQ7.out (fun k hk => Nat.le_trans HG.out.2.1 hk.1), Kd.V_mono (Kd.R_V (by rw [← HE.out]; exact HR7.out)) (fun k hk => by have := HG.out; have := HW3.out; omega), HB7.out⟩
end Go.Proofs.YtcmhdcjdgchnfaaDoor.G
