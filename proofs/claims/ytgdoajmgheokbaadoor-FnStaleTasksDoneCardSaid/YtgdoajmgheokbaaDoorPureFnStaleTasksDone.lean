/- FnStaleTasksDone: for every code, the tasks that are not stale are a valid done set. Nothing is assumed. -/
import Derived.Test.YtgdoajmgheokbaaDoorQStaleL
import Derived.Test.YtgdoajmgheokbaaDoorQDone
import Derived.Test.YtgdoajmgheokbaaDoorLFnStaleTasksDone
import Derived.Test.YtgdoajmgheokbaaDoorG0
import Derived.Test.YtgdoajmgheokbaaDoorG12
import Derived.Test.YtgdoajmgheokbaaDoorG2
import Derived.Test.YtgdoajmgheokbaaDoorLFnStaleTasksDone
namespace Go.Proofs.YtgdoajmgheokbaaDoor.G
open Go.RowKit Go.Proofs.YtgdoajmgheokbaaDoorW.PrintWords Go.Proofs.YtgdoajmgheokbaaDoorW.PrintLast Go.Proofs.YtgdoajmgheokbaaDoorW.PrintMore C
set_option linter.unusedVariables false
set_option linter.unusedSimpArgs false

theorem sd_l0 {g : List S74} {S : List Nat} (h8 : g.length ≤ 8) (hS : S.length ≤ 16) : ∀ (d i k : Nat), i + d = g.length → d + 30 ≤ k →
  laws_FnStaleTasksDone.l0 k g (castL S) (castL (upto (fun j => !(S.contains j)) i)) (i : Int) = some (dok g (castL (upto (fun j => !(S.contains j)) g.length))) := by
 intro d
 induction d with
 | zero =>
  intro i k hi hk
  obtain ⟨k, rfl⟩ : ∃ m, k = m + 1 := ⟨k - 1, by omega⟩
  obtain rfl : i = g.length := by omega
  rw [laws_FnStaleTasksDone.l0, if_neg (by omega)]
  rfl
 | succ d ih =>
  intro i k hi hk
  obtain ⟨k, rfl⟩ : ∃ m, k = m + 1 := ⟨k - 1, by omega⟩
  have hl := upto_len (fun j => !(S.contains j)) i
  have hn := upto_succ (fun j => !(S.contains j)) i
  have hin : laws_isIn.f k (castL S) (i : Int) = some (S.contains i) := by rw [lIsIn_eq (by rw [castL_length]; omega) _ _ (by rw [castL_length]; omega), castL_contains]
  rw [laws_FnStaleTasksDone.l0, if_pos (by omega), hin, nx (m := 8) (by omega) (by omega)]
  simp only [Option.bind_some]
  have hih := ih (i + 1) k (by omega) (by omega)
  cases c : S.contains i with
  | true =>
   rw [if_pos rfl]
   simp only [c] at hn
   rw [hn] at hih
   simpa using hih
  | false =>
   rw [if_neg (by decide), castL_length, if_pos (by omega), ← castL_snoc]
   simp only [c] at hn
   rw [hn] at hih
   simpa using hih
theorem pureFnStaleTasksDone : laws_FnStaleTasksDone.Pure := by
 intro l hm hl hw
 obtain ⟨k, hk⟩ : ∃ k, 2000 ≤ k := ⟨2000, Nat.le_refl _⟩
 refine ⟨k, ?_⟩
 unfold laws_FnStaleTasksDone.f
 by_cases h1 : (l.length : Int) > 1048576
 ·rw [if_pos h1]
 rw [if_neg h1]
 obtain ⟨g, s, hd, hsm, hsl⟩ := drawStaleTasks l hw
 have hsmall := sm_small hsm (by decide) (by decide)
 obtain ⟨m, rfl⟩ : ∃ m, k = m + 1 := ⟨k - 1, by omega⟩
 have hel := elems_len (stN g s)
 have hspec : ∀ k, 950 ≤ k → spec_StaleTasks.f k g s = impl_StaleTasks.f g s := fun k hk => specStaleTasks_eq (l0 := g) (l1 := s) (B := 100) (by decide) hsmall (by omega) k (by omega)
 simp only [hd, Option.bind_some, hspec (m + 1) (by omega)]
 by_cases c : sok g s = true
 ·have hg := (sok_parts c).1
  have h8 := gok8 hg
  have hv : impl_StaleTasks.f g s = some (castL (elems (stN g s))) := by unfold impl_StaleTasks.f; rw [if_pos c]
  have hlen := castL_length (elems (stN g s))
  simp only [hv, Option.bind_some, eqI_refl (castL (elems (stN g s))) (m + 1) (by omega) (by omega), if_true]
  cases e : (((castL (elems (stN g s))).length : Int) == 0) with
  | true =>
   rw [laws_FnStaleTasksDone.j0, if_pos rfl]
   simp only [hspec m (by omega), hv, Option.bind_some, eqI_refl (castL (elems (stN g s))) m (by omega) (by omega)]
  | false =>
   rw [laws_FnStaleTasksDone.j0, if_neg (by decide)]
   refine (sd_l0 (S := elems (stN g s)) h8 hel g.length 0 m (by omega) (by omega)).trans ?_
   congr 1
   refine dok_mk hg (upto_sorted _ _) (fun i hi => (mem_upto.1 hi).1) (fun i hi j hj => ?_)
   obtain ⟨hin, hp⟩ := mem_upto.1 hi
   have hjn := nds_lt (gok_fine hg) hin hj
   refine mem_upto.2 ⟨hjn, ?_⟩
   simp only [Bool.not_eq_true', List.contains_eq_mem, decide_eq_false_iff_not] at hp ⊢
   intro hjS
   refine hp ((stN_mem c).2 ⟨hin, ?_⟩)
   rcases ((stN_mem c).1 hjS).2 with h | ⟨x, hx, hr⟩
   ·exact .inr ⟨j, h, .base hj⟩
   ·exact .inr ⟨x, hx, .step hj hr⟩
 ·have hv : impl_StaleTasks.f g s = some [] := by unfold impl_StaleTasks.f; rw [if_neg c]
  simp only [hv, Option.bind_some, eqI_refl [] (m + 1) (by simp) (by simp), if_true]
  rw [show (((([] : List Int).length : Nat) : Int) == 0) = true from rfl, laws_FnStaleTasksDone.j0, if_pos rfl]
  simp only [hspec m (by omega), hv, Option.bind_some, eqI_refl [] m (by simp) (by simp; omega)]
end Go.Proofs.YtgdoajmgheokbaaDoor.G
