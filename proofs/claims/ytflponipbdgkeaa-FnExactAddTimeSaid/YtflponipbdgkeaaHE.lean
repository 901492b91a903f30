/-
  earlierValid by hand: slices.ContainsFunc with a function value.
-/
import Derived.Test.YtflponipbdgkeaaQOk
import Derived.Test.YtflponipbdgkeaaG0
import Derived.Test.YtflponipbdgkeaaG8
import Derived.Test.YtflponipbdgkeaaG9
namespace Go.Proofs.Ytflponipbdgkeaa.G
open Go.RowKit Go.Proofs.YtflponipbdgkeaaW.PrintWords Go.Proofs.YtflponipbdgkeaaW.PrintLast Go.Proofs.YtflponipbdgkeaaW.PrintMore
set_option linter.unusedVariables false
set_option linter.unusedSimpArgs false

def okT (n : Int) : Bool := decide (1 ≤ n ∧ n ≤ 20)
def vt (l : List Int) : Bool := decide (l.length ≤ 6) && l.all okT
theorem notOk_f (n : Int) : impl_earlierValid_1.f n = some (!okT n) := by
  unfold impl_earlierValid_1.f impl_timeValid.f impl_within.f okT
  by_cases h : n ≥ 1
  · rw [if_pos h]
    simp
    intro h2
    omega
  · rw [if_neg h]
    simp
    omega

theorem rd_at0 (l : List Int) (i : Nat) (h : i < l.length) : rd l (i : Int) = l[i] := by
  unfold rd
  rw [List.getD_eq_getElem?_getD, Int.toNat_natCast, List.getElem?_eq_getElem h]
  rfl
theorem take_all_succ {l : List Int} {i : Nat} (h : i < l.length) (h1 : (l.take i).all okT = true) (h2 : okT l[i] = true) : (l.take (i + 1)).all okT = true := by
  rw [List.take_succ_eq_append_getElem h, List.all_append, h1]
  simp [h2]
/-- What IndexFunc tells: is there one that isn't fine. -/
def FoundBad (l : List Int) (w : World) (e : Ending) (w' : World) : Prop := ∃ j : Int, e = .returned (.int .i64 j) ∧ decide (j ≥ 0) = !(l.all okT) ∧ Drawn0 w w'
set_option maxHeartbeats 4000000 in
set_option maxRecDepth 100000 in
theorem indexFunc_calls (A0 : Option Addr) (c0 : Nat) (l0 : List Int) (w : World) (hr0 : Kd.C (Kd.int .i64) w A0 l0.length l0) :
    Calls Try.prog 44 #[.slice A0 l0.length c0, .func (.func 41) #[] #[]] w (FoundBad l0 w) := by
  have HR0 := Aside0.mk hr0
  have HL := Aside0.mk hr0.2.1
  clear hr0
  go_enter Try.func44, Try.ntmps44
  go_wp2
  go_loopw [8] (fun v8 w' => ∃ i : Nat, v8 = .int .i64 i ∧ Aside0 (i ≤ l0.length) ∧ Aside0 ((l0.take i).all okT = true) ∧ Drawn0 w w') (fun v8 _ => l0.length - (intOf v8).toNat)
  case atStart => exact ⟨0, rfl, ⟨Nat.zero_le _⟩, ⟨by simp⟩, Drawn0.refl _⟩
  case round =>
    obtain ⟨i, rfl, HI, HT, ⟨m1, rfl⟩⟩ := hrel
    have hL := HL.out
    by_cases hlt : i < l0.length
    · have p101 : 0 ≤ (i : Int) := by omega
      have q101 : (i : Int) < (l0.length : Int) := by omega
      obtain ⟨ad101, e101, hx101⟩ := Kd.at_int HR0.out (i : Int) p101 q101
      cases e101
      rw [Int.toNat_natCast] at hx101
      have hf := notOk_f (rd l0 (i : Int))
      have HF := Aside0.mk hf
      clear hf
      cases hok : okT (rd l0 (i : Int)) with
      | true =>
        rw [hok] at HF
        have HOK := Aside0.mk hok
        clear hok
        go_wp2_with (first | (go_at_call 41; refine (impl_earlierValid_1.calls (rd l0 (i : Int)) _ _ HF.out).mono ?_; rintro e w' ⟨rfl, ⟨nd, rfl⟩⟩))
        refine ⟨⟨i + 1, by rw [Int.natCast_succ], ⟨by omega⟩, ⟨take_all_succ hlt HT.out (by rw [← rd_at0 l0 i hlt]; exact HOK.out)⟩, ⟨_, rfl⟩⟩, by simp [intOf]; omega⟩
      | false =>
        rw [hok] at HF
        have HOK := Aside0.mk hok
        clear hok
        go_wp2_with (first | (go_at_call 41; refine (impl_earlierValid_1.calls (rd l0 (i : Int)) _ _ HF.out).mono ?_; rintro e w' ⟨rfl, ⟨nd, rfl⟩⟩))
        go_ret
        have hall : l0.all okT = false := by
          rw [List.all_eq_false]
          exact ⟨l0[i], List.getElem_mem _, by rw [← rd_at0 l0 i hlt, HOK.out]; decide⟩
        exact ⟨(i : Int), rfl, by rw [hall]; simp, ⟨_, rfl⟩⟩
    · go_wp2
      go_ret
      have hall : l0.all okT = true := by
        have h := HT.out
        rwa [List.take_of_length_le (by omega)] at h
      exact ⟨-1, rfl, by rw [hall]; rfl, ⟨_, rfl⟩⟩
set_option maxHeartbeats 4000000 in
set_option maxRecDepth 100000 in
theorem containsFunc_calls (A0 : Option Addr) (c0 : Nat) (l0 : List Int) (w : World) (hr0 : Kd.C (Kd.int .i64) w A0 l0.length l0) :
    Calls Try.prog 40 #[.slice A0 l0.length c0, .func (.func 41) #[] #[]] w fun e w' => e = .returned (.bool (!(l0.all okT))) ∧ Drawn0 w w' := by
  have HR0 := Aside0.mk hr0
  clear hr0
  go_enter Try.func40, Try.ntmps40
  go_wp2_with (first | (go_at_call 44; refine (indexFunc_calls A0 c0 l0 _ HR0.out).mono ?_; rintro e w' ⟨j, rfl, hj, ⟨nd, rfl⟩⟩; have HJ := Aside0.mk hj; clear hj))
  go_ret
  exact ⟨by rw [← HJ.out]; rfl, ⟨_, rfl⟩⟩

def impl_earlierValid.f (l0 : List Int) : Option (Bool) := some (vt l0)
theorem earlierValid_f (l : List Int) : impl_earlierValid.f l = some (vt l) := rfl
set_option maxHeartbeats 4000000 in
set_option maxRecDepth 100000 in
theorem impl_earlierValid.calls (A0 : Option Addr) (c0 : Nat) (l0 : List Int) (r : Bool) (w : World) (hr0 : Kd.C (Kd.int .i64) w A0 l0.length l0) (hc0 : l0.length ≤ c0) (h : impl_earlierValid.f l0 = some r) :
    Calls Try.prog 30 #[.slice A0 l0.length c0] w fun e w' => e = .returned (.bool r) ∧ Below w.heap.size w w' := by
  have HR0 := Aside0.mk hr0
  clear hr0 hc0
  obtain rfl := Option.some.inj h
  clear h
  by_cases h6 : l0.length ≤ 6
  · have c0b : decide (l0.length ≤ 6) = true := decide_eq_true h6
    have c1b : decide ((l0.length : Int) ≤ 6) = true := decide_eq_true (by omega)
    have hv : vt l0 = l0.all okT := by unfold vt; rw [c0b, Bool.true_and]
    have HV := Aside0.mk hv
    clear hv
    go_enter Try.func30, Try.ntmps30
    go_wp2_with (first | (go_at_call 40; refine (containsFunc_calls A0 c0 l0 _ HR0.out).mono ?_; rintro e w' ⟨rfl, ⟨nd, rfl⟩⟩))
    go_ret
    exact ⟨by rw [HV.out]; simp, pw_below_drewN (Below.refl _ _) _⟩
  · have c0b : decide (l0.length ≤ 6) = false := decide_eq_false h6
    have c1b : decide ((l0.length : Int) ≤ 6) = false := decide_eq_false (by omega)
    have hv : vt l0 = false := by unfold vt; rw [c0b, Bool.false_and]
    have HV := Aside0.mk hv
    clear hv
    go_enter Try.func30, Try.ntmps30
    go_wp2
    go_ret
    exact ⟨by rw [HV.out]; rfl, Below.refl _ _⟩
end Go.Proofs.Ytflponipbdgkeaa.G
