/- FnAddTimeAll: for every code the law returns true: after six times AddTime of one time this time alone is left, and the estimate is the time. Nothing is assumed. -/
import Derived.Test.YtkmnjhlacdclhaaQAdd
import Derived.Test.YtkmnjhlacdclhaaQTimes
import Derived.Test.YtkmnjhlacdclhaaQEqualInts
import Derived.Test.YtkmnjhlacdclhaaLFnAddTimeAll
import Derived.Test.YtkmnjhlacdclhaaG0
import Derived.Test.YtkmnjhlacdclhaaLFnAddTimeAll
namespace Go.Proofs.Ytkmnjhlacdclhaa.G
open Go.RowKit Go.Proofs.YtkmnjhlacdclhaaW.PrintWords Go.Proofs.YtkmnjhlacdclhaaW.PrintMore C

theorem same_l1 (a : Int) (y : List Int) (hy : y = List.replicate 6 a) (he : est y = a) : ∀ (d k i : Nat), i + d = 6 → d + 21 ≤ k → laws_FnAddTimeAll.l1 k a y (i : Int) = some true := by
  have hl : y.length = 6 := by rw [hy]; simp
  intro d
  induction d with
  | zero =>
    intro k i hi hk
    obtain ⟨k, rfl⟩ : ∃ m, k = m + 1 := ⟨k - 1, by omega⟩
    simp only [laws_FnAddTimeAll.l1]
    rw [if_neg (by omega), if_pos (by omega), implEst y k (by omega), Option.bind_some, he]
    simp
  | succ d ih =>
    intro k i hi hk
    obtain ⟨k, rfl⟩ : ∃ m, k = m + 1 := ⟨k - 1, by omega⟩
    simp only [laws_FnAddTimeAll.l1]
    have hn : wrap64 ((i : Int) + 1) = ((i + 1 : Nat) : Int) := by rw [w64 (by omega) (by omega)]; omega
    have hr : rd y (i : Int) = a := by
      rw [rd_at y i (by omega)]
      simp only [hy, List.getElem_replicate]
    rw [if_pos (by omega), if_pos (by omega), hr, if_pos rfl, hn]
    exact ih k (i + 1) (by omega) (by omega)
theorem add_l0 (a : Int) (ha : okT a = true) : ∀ (d k i : Nat) (y pre : List Int), i + d = 6 → d + 40 ≤ k → 1 ≤ i → y = pre ++ List.replicate i a → vt y = true → laws_FnAddTimeAll.l0 k a y (i : Int) = some true := by
  have ha' := (okT_iff a).1 ha
  intro d
  induction d with
  | zero =>
    intro k i y pre hi hk h1 hy hv
    obtain ⟨k, rfl⟩ : ∃ m, k = m + 1 := ⟨k - 1, by omega⟩
    simp only [laws_FnAddTimeAll.l0]
    obtain rfl : i = 6 := by omega
    have hl := ((vt_iff y).1 hv).1
    have hp : pre = [] := by
      apply List.eq_nil_of_length_eq_zero
      rw [hy, List.length_append, List.length_replicate] at hl
      omega
    have hy' : y = List.replicate 6 a := by rw [hy, hp]; rfl
    have hne : y ≠ [] := by rw [hy']; simp
    have hall : ∀ x, x ∈ y → x = a := fun x hx => by rw [hy'] at hx; exact (List.mem_replicate.1 hx).2
    have he : est y = a := by
      unfold est
      rw [if_pos hv, if_neg hne]
      have hlo : a ≤ mean y := mean_low hne (fun x hx => by rw [hall x hx]; exact Int.le_refl _)
      have hhi : mean y ≤ a := mean_high hne (fun x hx => by rw [hall x hx]; exact Int.le_refl _)
      omega
    rw [if_neg (by omega)]
    exact same_l1 a y hy' he 6 k 0 (by omega) (by omega)
  | succ d ih =>
    intro k i y pre hi hk h1 hy hv
    obtain ⟨k, rfl⟩ : ∃ m, k = m + 1 := ⟨k - 1, by omega⟩
    simp only [laws_FnAddTimeAll.l0]
    have hn : wrap64 ((i : Int) + 1) = ((i + 1 : Nat) : Int) := by rw [w64 (by omega) (by omega)]; omega
    have hp : addP y a = ((y ++ [a]).drop (y.length + 1 - 6), true) := by unfold addP; rw [if_pos ⟨hv, ha⟩]
    have hl := ((vt_iff y).1 hv).1
    have hyl : y.length = pre.length + i := by rw [hy]; simp
    rw [if_pos (by omega), show impl_AddTime.f y a = some (addP y a) from rfl, hp, Option.bind_some]
    simp only
    rw [if_pos trivial, hn]
    refine ih k (i + 1) _ (pre.drop (y.length + 1 - 6)) (by omega) (by omega) (by omega) ?_ ?_
    · rw [hy, List.append_assoc, ← List.replicate_succ', ← hy, List.drop_append_of_le_length (by omega)]
    · rw [vt_iff]
      refine ⟨by rw [List.length_drop, List.length_append]; simp; omega, fun x hx => ?_⟩
      rcases List.mem_append.1 (List.mem_of_mem_drop hx) with h | h
      · exact ((vt_iff y).1 hv).2 x h
      · rw [List.mem_singleton.1 h]
        exact ha'
theorem pureFnAddTimeAll : laws_FnAddTimeAll.Pure := by
  intro l hm _ hw
  refine ⟨1000, ?_⟩
  unfold laws_FnAddTimeAll.f
  by_cases hz : (l.length : Int) > 1048576
  · rw [if_pos hz]
  rw [if_neg hz]
  obtain ⟨t, a, ht, hl, _⟩ := drawAdd l 1000 (by omega) hw
  rw [ht, Option.bind_some]
  simp only
  rw [show impl_AddTime.f t a = some (addP t a) from rfl, Option.bind_some, specAdd t a 1000 (by omega), Option.bind_some]
  have hlen := addP_len t a
  rw [eqI_refl _ _ (by omega) (by omega), Option.bind_some, if_pos rfl, if_neg (by simp)]
  rw [show (1000 : Nat) = 999 + 1 from rfl]
  simp only [laws_FnAddTimeAll.j0]
  by_cases hc : vt t = true ∧ okT a = true
  · have hp : addP t a = ((t ++ [a]).drop (t.length + 1 - 6), true) := by unfold addP; rw [if_pos hc]
    have h6 := ((vt_iff t).1 hc.1).1
    rw [hp]
    simp only
    rw [if_neg (by simp)]
    refine add_l0 a hc.2 5 999 1 _ (t.drop (t.length + 1 - 6)) (by omega) (by omega) (by omega) ?_ ?_
    · rw [List.drop_append_of_le_length (by omega)]
      rfl
    · rw [vt_iff]
      refine ⟨by rw [List.length_drop, List.length_append]; simp; omega, fun x hx => ?_⟩
      rcases List.mem_append.1 (List.mem_of_mem_drop hx) with h | h
      · exact ((vt_iff t).1 hc.1).2 x h
      · rw [List.mem_singleton.1 h]
        exact (okT_iff a).1 hc.2
  · have hp : addP t a = ([], false) := by unfold addP; rw [if_neg hc]
    rw [hp]
    simp only
    rw [if_pos (by simp), eqI_refl _ _ (by simp) (by simp), Option.bind_some, if_pos rfl]
    rfl
end Go.Proofs.Ytkmnjhlacdclhaa.G
