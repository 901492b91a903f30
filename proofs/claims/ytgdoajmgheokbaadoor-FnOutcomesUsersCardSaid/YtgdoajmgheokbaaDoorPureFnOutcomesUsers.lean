/- FnOutcomesUsers: for every code, if everything is kept going exactly those tasks are done that are not stale by the failing ones, and none is left. Nothing is assumed. -/
import Derived.Test.YtgdoajmgheokbaaDoorQOutL
import Derived.Test.YtgdoajmgheokbaaDoorQAny
import Derived.Test.YtgdoajmgheokbaaDoorQEqualInts
import Derived.Test.YtgdoajmgheokbaaDoorQStale
import Derived.Test.YtgdoajmgheokbaaDoorLFnOutcomesUsers
import Derived.Test.YtgdoajmgheokbaaDoorG0
import Derived.Test.YtgdoajmgheokbaaDoorG11
import Derived.Test.YtgdoajmgheokbaaDoorLFnOutcomesUsers
namespace Go.Proofs.YtgdoajmgheokbaaDoor.G
open Go.RowKit Go.Proofs.YtgdoajmgheokbaaDoorW.PrintWords Go.Proofs.YtgdoajmgheokbaaDoorW.PrintLast Go.Proofs.YtgdoajmgheokbaaDoorW.PrintMore C
set_option linter.unusedVariables false
set_option linter.unusedSimpArgs false

theorem us_l0 {g : List S74} {s : List Int} (c : sok g s = true) : ∀ (d i k : Nat), i + d = g.length → d + 50 < k → laws_FnOutcomesUsers.l0 k g (outL g s 8) (castL (elems (stN g s))) (i : Int) = some true := by
 have hg := (sok_partsO c).1
 have h8 := gok8 hg
 have hlen := outL_len (l1 := s) (kI := 8) hg
 have hel := elems_len (stN g s)
 have h3 := outL_all c
 intro d
 induction d with
 | zero =>
  intro i k hi hk
  obtain ⟨k, rfl⟩ : ∃ m, k = m + 1 := ⟨k - 1, by omega⟩
  rw [laws_FnOutcomesUsers.l0, if_neg (by omega), hlen]
  simp
 | succ d ih =>
  intro i k hi hk
  obtain ⟨k, rfl⟩ : ∃ m, k = m + 1 := ⟨k - 1, by omega⟩
  have hin : i < g.length := by omega
  have hh := outL_hit c (by decide : (1 : Int) ≤ 8) h3 i hin
  have hro : rd (outL g s 8) (i : Int) = (outL g s 8).getD i 0 := rd_nat _ _
  have hm : (castL (elems (stN g s))).contains (i : Int) = true ↔ Hit g s i := by
   rw [toNat_contains (by omega), Int.toNat_natCast, List.contains_eq_mem, decide_eq_true_eq]
   have hb := stN_bits c
   rw [mem_elems hb.lt]
   exact (hb.iff i).trans ⟨fun e => e.2, fun e => ⟨hin, e⟩⟩
  have hne3 : ¬ (outL g s 8).getD i 0 = 3 := fun e => by
   have := cntK_pos (l := outL g s 8) (c := 3) (k := i) (by omega) e
   omega
  rw [laws_FnOutcomesUsers.l0, if_pos (by omega), if_pos (by omega), lIsInO_eq (by rw [castL_length]; omega) _ _ (by rw [castL_length]; omega), hro]
  simp only [Option.bind_some]
  rw [nx (m := 8) (by omega) (by omega)]
  cases hb : (castL (elems (stN g s))).contains (i : Int) with
  | true =>
   have hz : ¬ (outL g s 8).getD i 0 = 0 := fun e => (hh.1 e) (hm.1 hb)
   rw [show ((outL g s 8).getD i 0 == 0) = false from beq_eq_false_iff_ne.2 hz, if_neg (by decide), if_neg hne3]
   exact ih (i + 1) k (by omega) (by omega)
  | false =>
   have hz : (outL g s 8).getD i 0 = 0 := hh.2 (fun e => by rw [hm.2 e] at hb; cases hb)
   rw [hz, show ((0 : Int) == 0) = true from rfl, if_neg (by decide), if_neg (by decide)]
   exact ih (i + 1) k (by omega) (by omega)
theorem pureFnOutcomesUsers : laws_FnOutcomesUsers.Pure := by
 intro l hm hl hw
 obtain ⟨k, hk⟩ : ∃ k, 2000 ≤ k := ⟨2000, Nat.le_refl _⟩
 refine ⟨k, ?_⟩
 unfold laws_FnOutcomesUsers.f
 by_cases h1 : (l.length : Int) > 1048576
 ·rw [if_pos h1]
 rw [if_neg h1]
 obtain ⟨g, s, kp, hd, hsm, hsl, _⟩ := drawOutcomes l hw
 have hsmall : Small 100 g := ⟨Nat.le_trans hsm.len (by decide), fun t ht => Nat.le_trans (hsm.nd t ht) (by decide)⟩
 obtain ⟨m, rfl⟩ : ∃ m, k = m + 1 := ⟨k - 1, by omega⟩
 obtain ⟨out, hv, hlen, hcase⟩ := outcomes_val g s kp
 have hspec : ∀ k, 900 ≤ k → spec_Outcomes.f k g s kp = some out := fun k hk => (specOutcomes_eq (B := 100) (by decide) hsmall (by omega) k (by omega)).trans hv
 simp only [hd, Option.bind_some, hv, hspec (m + 1) (by omega), eqI_refl out (m + 1) (by omega) (by omega), if_true]
 rcases hcase with ⟨c, d1, d2, ho, hlo⟩ | ho
 ·cases e : ((out.length : Int) == 0) with
  | true =>
   rw [laws_FnOutcomesUsers.j0, if_pos rfl]
   simp only [hspec m (by omega), Option.bind_some, eqI_refl out m (by omega) (by omega)]
  | false =>
   have h8 := gok8 (sok_partsO c).1
   have hz : impl_Outcomes.f g s 8 = some (outL g s 8) := by
    unfold impl_Outcomes.f ook
    rw [c]
    rfl
   have hs2 : impl_StaleTasks.f g s = some (castL (elems (stN g s))) := by unfold impl_StaleTasks.f; rw [if_pos c]
   rw [laws_FnOutcomesUsers.j0, if_neg (by decide), hz]
   simp only [Option.bind_some, hs2]
   exact us_l0 c g.length 0 m (by omega) (by omega)
 ·subst ho
  rw [show ((([] : List Int).length : Int) == 0) = true from rfl, laws_FnOutcomesUsers.j0, if_pos rfl]
  simp only [hspec m (by omega), Option.bind_some, eqI_refl [] m (by simp) (by simp; omega)]
end Go.Proofs.YtgdoajmgheokbaaDoor.G
