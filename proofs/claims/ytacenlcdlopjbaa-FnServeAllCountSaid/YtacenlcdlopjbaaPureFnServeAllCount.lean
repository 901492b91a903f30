/- FnServeAllCount: for every code the law returns true: the program's ServeAll is the reference's, and as many are served as tasks wait. Nothing is assumed. -/
import Derived.Test.YtacenlcdlopjbaaQAll
import Derived.Test.YtacenlcdlopjbaaQEqualInts
import Derived.Test.YtacenlcdlopjbaaLFnServeAllCount
import Derived.Test.YtacenlcdlopjbaaG0
import Derived.Test.YtacenlcdlopjbaaLFnServeAllCount
namespace Go.Proofs.Ytacenlcdlopjbaa.G
open Go.RowKit Go.Proofs.YtacenlcdlopjbaaW.PrintWords C

theorem sum_take {us : List S31} {i : Nat} (h : i < us.length) : sumW (us.take (i + 1)) = sumW (us.take i) + us[i].f2.toNat := by
  unfold sumW
  rw [List.take_succ_eq_append_getElem h, List.map_append, List.sum_append]
  simp
theorem fnCount_l0 (l : List S31) (hok : okAll l) (h5 : l.length ≤ 5) (out : List Int) (ho : out.length = sumW l) : ∀ (d k i : Nat), i + d = l.length → d < k → laws_FnServeAllCount.l0 k l out (sumW (l.take i) : Int) (i : Int) = some true := by
  intro d
  induction d with
  | zero =>
    intro k i hi hk
    obtain ⟨k, rfl⟩ : ∃ m, k = m + 1 := ⟨k - 1, by omega⟩
    simp only [laws_FnServeAllCount.l0]
    rw [if_neg (by omega), List.take_of_length_le (by omega), ho]
    simp
  | succ d ih =>
    intro k i hi hk
    obtain ⟨k, rfl⟩ : ∃ m, k = m + 1 := ⟨k - 1, by omega⟩
    have hrec := ih k (i + 1) (by omega) (by omega)
    simp only [laws_FnServeAllCount.l0]
    have hnx : wrap64 ((i : Int) + 1) = ((i + 1 : Nat) : Int) := by rw [w64 (by omega) (by omega)]; omega
    have hi' : i < l.length := by omega
    have hu := hok _ (List.getElem_mem hi')
    unfold okU at hu
    have hle := sumW_le (us := l.take i) (fun u hu => hok u (List.mem_of_mem_take hu))
    rw [List.length_take] at hle
    have hs : wrap64 ((sumW (l.take i) : Int) + (rd_T31 l i).f2) = (sumW (l.take (i + 1)) : Int) := by
      rw [sum_take hi', rdU_nat l i hi', w64 (by omega) (by omega)]
      omega
    rw [if_pos (by omega), if_pos (by omega), hnx, hs]
    exact hrec
theorem pureFnServeAllCount : laws_FnServeAllCount.Pure := by
  intro l hm _ hw
  refine ⟨200, ?_⟩
  unfold laws_FnServeAllCount.f
  by_cases hz : (l.length : Int) > 1048576
  · rw [if_pos hz]
  rw [if_neg hz]
  obtain ⟨us, t, hu, h6⟩ := drawServeAll l hw 200 (by omega)
  have hle := allR_le us t
  rw [hu, Option.bind_some]
  dsimp only
  rw [implAll, Option.bind_some, specAll us t (by omega) 200 (by omega), Option.bind_some, eqI_refl _ 200 (by omega) (by omega), Option.bind_some, if_pos rfl, implVU us 200 (by omega) (by omega), Option.bind_some, show (200 : Nat) = 199 + 1 from rfl]
  simp only [laws_FnServeAllCount.j0]
  rw [specAll us t (by omega) 199 (by omega), Option.bind_some, eqI_refl _ 199 (by omega) (by omega), Option.bind_some]
  by_cases hv : vu us = true
  · rw [if_pos hv]
    by_cases ht1 : t < 1
    · rw [if_pos ht1]
      simp
    · rw [if_neg ht1]
      by_cases ht2 : t > 20
      · rw [decide_eq_true ht2]
        simp
      · rw [decide_eq_false ht2, if_neg (by decide)]
        obtain ⟨hok, h5⟩ := vu_ok hv
        refine fnCount_l0 us hok h5 _ ?_ us.length 199 0 (by omega) (by omega)
        unfold allR
        rw [if_pos ⟨hv, by omega⟩, allI_length (by omega) _ _ hok (Nat.le_refl _)]
  · rw [if_neg hv]
    simp
end Go.Proofs.Ytacenlcdlopjbaa.G
