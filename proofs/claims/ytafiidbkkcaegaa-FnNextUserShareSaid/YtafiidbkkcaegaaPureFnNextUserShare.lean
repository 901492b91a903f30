/- FnNextUserShare: for every code the law returns true: the program's NextUser is the reference's, and of users who have used as much the one with the greatest share comes next. Nothing is assumed. -/
import Derived.Test.YtafiidbkkcaegaaQDrawN
import Derived.Test.YtafiidbkkcaegaaLFnNextUserShare
import Derived.Test.YtafiidbkkcaegaaG0
import Derived.Test.YtafiidbkkcaegaaLFnNextUserShare
namespace Go.Proofs.Ytafiidbkkcaegaa.G
open Go.RowKit Go.Proofs.YtafiidbkkcaegaaW.PrintWords C

/-- The users who have used as much. -/
def evenU (us : List S27) : List S27 := us.map (fun u => ⟨u.f0, 60, 1⟩)
theorem evenU_length (us : List S27) : (evenU us).length = us.length := by simp [evenU]
theorem rd_even {us : List S27} {i : Nat} (h : i < us.length) : rd_T27 (evenU us) (i : Int) = ⟨(rd_T27 us i).f0, 60, 1⟩ := by
  rw [rdU_nat _ i (by rw [evenU_length]; exact h), rdU_nat us i h]
  simp [evenU]
theorem evenU_take {us : List S27} {i : Nat} (h : i < us.length) : evenU (us.take (i + 1)) = evenU (us.take i) ++ [⟨(rd_T27 us i).f0, 60, 1⟩] := by
  rw [List.take_succ_eq_append_getElem h, rdU_nat us i h]
  unfold evenU
  rw [List.map_append]
  rfl
/-- The greatest share of the first i. -/
def mostS (us : List S27) : Nat → Int
  | 0 => 0
  | i + 1 => mx (mostS us i) (rd_T27 us i).f0
theorem mx_le {a b : Int} : a ≤ mx a b ∧ b ≤ mx a b ∧ (mx a b = a ∨ mx a b = b) := by
  unfold mx
  split <;> omega
theorem mostS_ge {us : List S27} : ∀ {i j : Nat}, j < i → sK us j ≤ mostS us i
  | 0, j, h => absurd h (Nat.not_lt_zero _)
  | i + 1, j, h => by
    unfold mostS
    have hm := mx_le (a := mostS us i) (b := (rd_T27 us i).f0)
    by_cases e : j = i
    · subst e
      exact hm.2.1
    · have := mostS_ge (us := us) (i := i) (j := j) (by omega)
      omega
theorem mostS_is {us : List S27} : ∀ {i : Nat}, mostS us i = 0 ∨ ∃ j, j < i ∧ mostS us i = sK us j
  | 0 => .inl rfl
  | i + 1 => by
    unfold mostS
    have hm := mx_le (a := mostS us i) (b := (rd_T27 us i).f0)
    rcases hm.2.2 with h | h
    · rcases mostS_is (us := us) (i := i) with h0 | ⟨j, hj, h0⟩
      · exact .inl (by omega)
      · exact .inr ⟨j, by omega, by omega⟩
    · exact .inr ⟨i, by omega, h⟩
theorem evenU_ok {us : List S27} (h : vu us = true) : vu (evenU us) = true := by
  rw [vu_iff] at h ⊢
  refine ⟨by rw [evenU_length]; exact h.1, fun u hu => ?_⟩
  obtain ⟨x, hx, rfl⟩ := List.mem_map.1 hu
  have := h.2 x hx
  unfold okU at this ⊢
  exact ⟨this.1, by simp, by simp⟩
theorem evenU_next {us : List S27} (h : vu us = true) : ∃ a, nextN (evenU us) = some a ∧ a < us.length ∧ sK us a = mostS us us.length := by
  obtain ⟨hok, h5⟩ := vu_ok (evenU_ok h)
  obtain ⟨hok0, _⟩ := vu_ok h
  have h1 := ((vu_iff us).1 h).1
  cases hn : nextN (evenU us) with
  | none =>
    have := nextGo_none.1 hn 0 (by rw [evenU_length]; omega)
    unfold wK at this
    rw [rd_even (by omega)] at this
    exact absurd (by simp) this
  | some a =>
    obtain ⟨ha, hwa, hmin⟩ := nextGo_some (fun j hj => (hok.waits j hj).2) hn
    rw [evenU_length] at ha hmin
    refine ⟨a, rfl, ha, ?_⟩
    have hge : ∀ i, i < us.length → sK us i ≤ sK us a := by
      intro i hi
      have hm := hmin i hi (by unfold wK; rw [rd_even hi]; simp)
      have hx : ¬ (60 * sK us a < 60 * sK us i ∨ (60 * sK us a = 60 * sK us i ∧ i < a)) := by
        have e := ltK_iff (uK (evenU us)) (sK (evenU us)) i a
        rw [hm] at e
        unfold uK sK at e
        rw [rd_even hi, rd_even ha] at e
        intro hh
        exact absurd (e.2 hh) (by simp)
      omega
    have h2 := mostS_ge (us := us) (i := us.length) ha
    have h3 := (hok0.at_ ha)
    unfold okU at h3
    rcases mostS_is (us := us) (i := us.length) with h4 | ⟨j, hj, h4⟩
    · unfold sK at h2
      omega
    · have := hge j hj
      omega
theorem fnShare_l0 (l : List S27) (hv : vu l = true) : ∀ (d k i : Nat), i + d = l.length → d < k → laws_FnNextUserShare.l0 k l (evenU (l.take i)) (mostS l i) (i : Int) = some true := by
  have h5 := (vu_ok hv).2
  intro d
  induction d with
  | zero =>
    intro k i hi hk
    obtain ⟨k, rfl⟩ : ∃ m, k = m + 1 := ⟨k - 1, by omega⟩
    simp only [laws_FnNextUserShare.l0]
    obtain ⟨a, hn, ha, hs⟩ := evenU_next hv
    have hi' : i = l.length := by omega
    rw [if_neg (by omega), List.take_of_length_le (by omega), implNext, if_pos (evenU_ok hv), Option.bind_some, nextI_some hn, if_pos (by omega), evenU_length, if_pos (by omega), if_pos (by omega), rd_even ha, hi', ← hs]
    unfold sK
    simp
  | succ d ih =>
    intro k i hi hk
    obtain ⟨k, rfl⟩ : ∃ m, k = m + 1 := ⟨k - 1, by omega⟩
    have hrec := ih k (i + 1) (by omega) (by omega)
    simp only [laws_FnNextUserShare.l0]
    have hnx : wrap64 ((i : Int) + 1) = ((i + 1 : Nat) : Int) := by rw [w64 (by omega) (by omega)]; omega
    rw [if_pos (by omega), if_pos (by omega), if_pos (by rw [evenU_length, List.length_take]; omega), hnx, ← evenU_take (by omega)]
    exact hrec
theorem pureFnNextUserShare : laws_FnNextUserShare.Pure := by
  intro l hm _ hw
  refine ⟨100, ?_⟩
  unfold laws_FnNextUserShare.f
  by_cases hz : (l.length : Int) > 1048576
  · rw [if_pos hz]
  rw [if_neg hz]
  obtain ⟨us, hu, h6⟩ := drawNext l hw 100 (by omega)
  rw [hu, Option.bind_some, implNext, Option.bind_some, specNextUser us (by omega) 100 (by omega), Option.bind_some, if_pos rfl, implVU us 100 (by omega) (by omega), Option.bind_some, show (100 : Nat) = 99 + 1 from rfl]
  simp only [laws_FnNextUserShare.j0]
  by_cases hv : vu us = true
  · rw [if_pos hv, hv, if_neg (by decide)]
    exact fnShare_l0 us hv us.length 99 0 (by omega) (by have := (vu_ok hv).2; omega)
  · have hv' : vu us = false := by simpa using hv
    rw [if_neg hv, hv', if_pos (by decide), specNextUser us (by omega) 99 (by omega), if_neg hv]
    rfl
end Go.Proofs.Ytafiidbkkcaegaa.G
