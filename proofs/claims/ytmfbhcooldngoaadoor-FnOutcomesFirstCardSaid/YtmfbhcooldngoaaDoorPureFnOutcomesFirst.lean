/- FnOutcomesFirst: for every code, with one failure that ends everything all tasks behind the failing one are left. Nothing is assumed. -/
import Derived.Test.YtmfbhcooldngoaaDoorQOutL
import Derived.Test.YtmfbhcooldngoaaDoorQAny
import Derived.Test.YtmfbhcooldngoaaDoorQEqualInts
import Derived.Test.YtmfbhcooldngoaaDoorHRel
import Derived.Test.YtmfbhcooldngoaaDoorLFnOutcomesFirst
import Derived.Test.YtmfbhcooldngoaaDoorG0
import Derived.Test.YtmfbhcooldngoaaDoorG3
import Derived.Test.YtmfbhcooldngoaaDoorLFnOutcomesFirst
namespace Go.Proofs.YtmfbhcooldngoaaDoor.G
open Go.RowKit Go.Proofs.YtmfbhcooldngoaaDoorW.PrintWords Go.Proofs.YtmfbhcooldngoaaDoorW.PrintLast Go.Proofs.YtmfbhcooldngoaaDoorW.PrintMore C
set_option linter.unusedVariables false
set_option linter.unusedSimpArgs false

theorem first_l0 {g : List S40} {s : List Int} (c : sok g s = true) : ∀ (rest pre : List Nat) (k : Nat), ord g = pre ++ rest → rest.length < k → laws_FnOutcomesFirst.l0 k (outL g s 1) (castL (ord g)) (decide (1 ≤ oF g s 1 pre)) (pre.length : Int) = some true := by
 have hg := (sok_partsO c).1
 have h8 := gok8 hg
 have hol := ord_len hg
 have hlen := outL_len (l1 := s) (kI := 1) hg
 have hpo : Pre g.length (nds g) (ord g) := topo_pre g.length (nds g)
 intro rest
 induction rest with
 | nil =>
  intro pre k e hk
  obtain ⟨k, rfl⟩ : ∃ m, k = m + 1 := ⟨k - 1, by omega⟩
  rw [laws_FnOutcomesFirst.l0, if_neg (by rw [castL_length, e]; simp)]
 | cons x r ih =>
  intro pre k e hk
  obtain ⟨k, rfl⟩ : ∃ m, k = m + 1 := ⟨k - 1, by omega⟩
  simp only [List.length_cons] at hk
  have hlt : pre.length < (ord g).length := by rw [e]; simp
  have hxe : (ord g).getD pre.length 0 = x := by rw [e]; simp
  have hp : Pre g.length (nds g) (pre ++ [x]) := by
   rw [e, show pre ++ x :: r = (pre ++ [x]) ++ r by simp] at hpo
   exact ⟨fun i hi => hpo.lt i (List.mem_append_left _ hi), (List.nodup_append.1 hpo.nodup).1, fun a b c e' k hk => hpo.needs a b (c ++ r) (by rw [e']; simp) k hk⟩
  obtain ⟨hpre, hxn, hx, hnx⟩ := pre_init hp
  have hi := outs_inv c (by decide : (1 : Int) ≤ 1) pre hpre
  have hl : x < (oO g s 1 pre).length := by rw [hi.len]; exact hxn
  have hcl := castL_length (ord g)
  have hfin : (outL g s 1).getD x 0 = (oO g s 1 (pre ++ [x])).getD x 0 := by
   have h := oO_keep c (by decide : (1 : Int) ≤ 1) r (pre ++ [x]) (by rw [List.append_assoc]; rw [e] at hpo; exact hpo) x (by simp)
   rw [← h, List.append_assoc]
   show _ = (oO g s 1 (pre ++ (x :: r))).getD x 0
   rw [← e]
   rfl
  have hrd : rd (castL (ord g)) (pre.length : Int) = (x : Int) := by rw [rd_castL, hxe]
  have hro : rd (outL g s 1) (x : Int) = (outL g s 1).getD x 0 := rd_nat _ _
  have hih := ih (pre ++ [x]) k (by rw [e]; simp) (by omega)
  have hn1 : wrap64 ((pre.length : Int) + 1) = ((pre ++ [x]).length : Int) := by rw [nx (m := 8) (by omega) (by omega)]; simp
  rw [laws_FnOutcomesFirst.l0, if_pos (by omega), if_pos (by omega), hrd, if_neg (by omega), if_neg (by omega), hn1, hro, hfin]
  rcases outs_turn c hp hi with ⟨c1, e1, e2, e3⟩ | ⟨c1, ⟨j, hj, hj2⟩, e1, e2, e3⟩ | ⟨c1, c2, c3, e1, e2, e3⟩ | ⟨c1, c2, c3, e1, e2, e3⟩
  ·rw [e3] at hih
   rw [decide_eq_true (show 1 ≤ oF g s 1 pre by omega)] at hih ⊢
   rw [if_pos rfl, if_pos (by omega), if_pos (by omega), e1, gset hl, if_pos rfl, if_pos rfl]
   exact hih
  ·exact absurd (first_zero c (by decide : (1 : Int) ≤ 1) pre hpre (by omega) j) hj2
  ·rw [e3, decide_eq_true (by omega)] at hih
   rw [decide_eq_false (show ¬ 1 ≤ oF g s 1 pre by omega), if_neg (by decide), if_pos (by omega), if_pos (by omega), e1, gset hl, if_pos rfl, if_neg (by decide), if_pos rfl]
   exact hih
  ·rw [e3, decide_eq_false (show ¬ 1 ≤ oF g s 1 pre by omega)] at hih
   rw [decide_eq_false (show ¬ 1 ≤ oF g s 1 pre by omega), if_neg (by decide), if_pos (by omega), if_pos (by omega), e1, gset hl, if_pos rfl, if_pos rfl]
   exact hih
theorem pureFnOutcomesFirst : laws_FnOutcomesFirst.Pure := by
 intro l hm hl hw
 obtain ⟨k, hk⟩ : ∃ k, 2000 ≤ k := ⟨2000, Nat.le_refl _⟩
 refine ⟨k, ?_⟩
 unfold laws_FnOutcomesFirst.f
 by_cases h1 : (l.length : Int) > 1048576
 ·rw [if_pos h1]
 rw [if_neg h1]
 obtain ⟨g, s, kp, hd, hsm, hsl, _⟩ := drawOutcomes l hw
 have hsmall : Small 100 g := ⟨Nat.le_trans hsm.len (by decide), fun t ht => Nat.le_trans (hsm.nd t ht) (by decide)⟩
 obtain ⟨m, rfl⟩ : ∃ m, k = m + 1 := ⟨k - 1, by omega⟩
 obtain ⟨out, hv, hlen, hcase⟩ := outcomes_val g s kp
 have hspec : ∀ k, 900 ≤ k → spec_Outcomes.f k g s kp = some out := fun k hk => (specOutcomes_eq (B := 100) (by decide) hsmall (by omega) k (by omega)).trans hv
 simp only [hd, Option.bind_some, hv, hspec (m + 1) (by omega), eqI_refl out (m + 1) (by omega) (by omega), if_true]
 rcases hcase with ⟨c, d1, d2, ho, hlo⟩ | ho
 ·cases e : ((out.length : Int) == 0) with
  | true =>
   rw [laws_FnOutcomesFirst.j0, if_pos rfl]
   simp only [hspec m (by omega), Option.bind_some, eqI_refl out m (by omega) (by omega)]
  | false =>
   rw [laws_FnOutcomesFirst.j0, if_neg (by decide)]
   have hg := (sok_partsO c).1
   have h8 := gok8 hg
   have hol := ord_len hg
   have hz : impl_Outcomes.f g s 1 = some (outL g s 1) := by
    unfold impl_Outcomes.f ook
    rw [c]
    rfl
   have ht : impl_TopOrder.f g = some (castL (ord g)) := by
    unfold impl_TopOrder.f
    rw [if_pos hg]
   simp only [hz, Option.bind_some, ht]
   have h := first_l0 c (ord g) [] m rfl (by omega)
   simpa [oF, outs] using h
 ·subst ho
  rw [show ((([] : List Int).length : Int) == 0) = true from rfl, laws_FnOutcomesFirst.j0, if_pos rfl]
  simp only [hspec m (by omega), Option.bind_some, eqI_refl [] m (by simp) (by simp; omega)]
end Go.Proofs.YtmfbhcooldngoaaDoor.G
