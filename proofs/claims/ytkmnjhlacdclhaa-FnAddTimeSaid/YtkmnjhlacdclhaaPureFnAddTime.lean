/- FnAddTime: for every code the law returns true: what AddTime returns is the reference's, and has the time behind the last ones. Nothing is assumed. -/
import Derived.Test.YtkmnjhlacdclhaaQAdd
import Derived.Test.YtkmnjhlacdclhaaQTimes
import Derived.Test.YtkmnjhlacdclhaaQEqualInts
import Derived.Test.YtkmnjhlacdclhaaLFnAddTime
import Derived.Test.YtkmnjhlacdclhaaG0
import Derived.Test.YtkmnjhlacdclhaaLFnAddTime
namespace Go.Proofs.Ytkmnjhlacdclhaa.G
open Go.RowKit Go.Proofs.YtkmnjhlacdclhaaW.PrintWords Go.Proofs.YtkmnjhlacdclhaaW.PrintMore C

theorem cut_eq (t y : List Int) (a : Int) (h6 : t.length ≤ 6) (hyd : y = t.drop (t.length + 1 - 6) ++ [a]) : y.take (y.length - 1) = t.drop (t.length - (y.length - 1)) := by
  have hyl : y.length = t.length - (t.length + 1 - 6) + 1 := by rw [hyd]; simp
  have e1 : t.length - (y.length - 1) = t.length + 1 - 6 := by omega
  have e2 : y.length - 1 = (t.drop (t.length + 1 - 6)).length := by rw [List.length_drop]; omega
  rw [e1, e2, hyd, List.take_left]
theorem pureFnAddTime : laws_FnAddTime.Pure := by
  intro l hm _ hw
  refine ⟨1000, ?_⟩
  unfold laws_FnAddTime.f
  by_cases hz : (l.length : Int) > 1048576
  · rw [if_pos hz]
  rw [if_neg hz]
  obtain ⟨t, a, ht, hl, ha⟩ := drawAdd l 1000 (by omega) hw
  rw [ht, Option.bind_some]
  simp only
  rw [show impl_AddTime.f t a = some (addP t a) from rfl, Option.bind_some, specAdd t a 1000 (by omega), Option.bind_some]
  have hlen := addP_len t a
  rw [eqI_refl _ _ (by omega) (by omega), Option.bind_some, if_pos rfl, if_neg (by simp)]
  rw [show (1000 : Nat) = 999 + 1 from rfl]
  simp only [laws_FnAddTime.j0]
  clear hlen
  by_cases hc : vt t = true ∧ okT a = true
  · have hp : addP t a = ((t ++ [a]).drop (t.length + 1 - 6), true) := by unfold addP; rw [if_pos hc]
    have h6 := ((vt_iff t).1 hc.1).1
    rw [hp]
    obtain ⟨y, hy⟩ : ∃ y : List Int, y = (t ++ [a]).drop (t.length + 1 - 6) := ⟨_, rfl⟩
    have hyd : y = t.drop (t.length + 1 - 6) ++ [a] := by
      rw [hy, List.drop_append_of_le_length (by omega)]
    have hyl : y.length = t.length - (t.length + 1 - 6) + 1 := by rw [hyd]; simp
    rw [← hy]
    simp only
    have hw1 : wrap64 ((y.length : Int) - 1) = ((y.length - 1 : Nat) : Int) := by rw [w64 (by omega) (by omega)]; omega
    have HW1 := Aside0.mk hw1
    clear hw1
    have hr : rd y ((y.length - 1 : Nat) : Int) = a := by
      rw [rd_at y _ (by omega)]
      simp only [hyd, List.length_append, List.length_cons, List.length_nil]
      simp
    have hw2 : wrap64 ((t.length : Int) - ((y.length - 1 : Nat) : Int)) = ((t.length - (y.length - 1) : Nat) : Int) := by rw [w64 (by omega) (by omega)]; omega
    have HW2 := Aside0.mk hw2
    clear hw2
    have hw3 : wrap64 ((t.length : Int) + 1) = ((t.length + 1 : Nat) : Int) := by rw [w64 (by omega) (by omega)]; omega
    have HW3 := Aside0.mk hw3
    clear hw3
    have hcut := cut_eq t y a h6 hyd
    have hne : ((y.length : Int) == 0) = false := by simp; intro h; rw [h] at hyl; simp at hyl
    have hmin : ((y.length : Int) == mn ((t.length + 1 : Nat) : Int) 6) = true := by
      rw [beq_iff_eq]
      unfold mn
      split <;> omega
    rw [if_pos trivial, hne, if_neg (by simp), HW1.out, if_pos (by omega), if_pos (by omega), hr, if_pos rfl, if_pos (by omega), if_pos (by omega), HW2.out, if_pos (by omega), if_pos (by omega), Int.toNat_natCast, Int.toNat_natCast, hcut,
      eqI_refl _ _ (by rw [List.length_drop]; omega) (by rw [List.length_drop]; omega), Option.bind_some, if_pos rfl, HW3.out, hmin]
  · have hp : addP t a = ([], false) := by unfold addP; rw [if_neg hc]
    rw [hp]
    simp only
    rw [if_neg (by simp), if_pos trivial, eqI_refl _ _ (by simp) (by simp), Option.bind_some, if_pos rfl]
    rfl
end Go.Proofs.Ytkmnjhlacdclhaa.G
