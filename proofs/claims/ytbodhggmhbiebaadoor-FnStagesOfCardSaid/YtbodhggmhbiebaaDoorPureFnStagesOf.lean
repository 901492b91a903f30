/- FnStagesOf: for every code, the parts by stages are not empty, ascend, hold tasks of their own stage, and hold all tasks. Nothing is assumed. -/
import Derived.Test.YtbodhggmhbiebaaDoorQStages
import Derived.Test.YtbodhggmhbiebaaDoorQAny
import Derived.Test.YtbodhggmhbiebaaDoorQEqLL
import Derived.Test.YtbodhggmhbiebaaDoorLFnStagesOf
import Derived.Test.YtbodhggmhbiebaaDoorG0
import Derived.Test.YtbodhggmhbiebaaDoorG7
import Derived.Test.YtbodhggmhbiebaaDoorG8
import Derived.Test.YtbodhggmhbiebaaDoorLFnStagesOf
namespace Go.Proofs.YtbodhggmhbiebaaDoor.G
open Go.RowKit Go.Proofs.YtbodhggmhbiebaaDoorW.PrintWords Go.Proofs.YtbodhggmhbiebaaDoorW.PrintLast Go.Proofs.YtbodhggmhbiebaaDoorW.PrintMore C
set_option linter.unusedVariables false
set_option linter.unusedSimpArgs false

def totS (l : List (List Int)) : Nat := (l.map List.length).sum
theorem totS_app (a b : List (List Int)) : totS (a ++ b) = totS a + totS b := by
 unfold totS
 rw [List.map_append, List.sum_append]
theorem totS_set : ∀ (l : List (List Int)) (s : Nat) (x : List Int), s < l.length → totS (l.set s x) + (l.getD s []).length = totS l + x.length
 | [], s, x, h => by simp at h
 | a :: r, 0, x, _ => by
  simp [totS]
  omega
 | a :: r, s + 1, x, h => by
  have ih := totS_set r s x (by simpa using h)
  simp only [List.set_cons_succ, List.getD_cons_succ]
  unfold totS at ih ⊢
  simp only [List.map_cons, List.sum_cons]
  omega
theorem totS_nil (m : Nat) : totS (List.replicate m []) = 0 := by
 unfold totS
 induction m with
 | zero => rfl
 | succ m ih => rw [List.replicate_succ, List.map_cons, List.sum_cons, ih]; rfl
theorem totS_stgs (st : List Int) : ∀ q, totS (stgsTo st q) = q
 | 0 => rfl
 | q + 1 => by
  have ih := totS_stgs st q
  rw [stgsTo_succ]
  unfold stgsStep
  obtain ⟨s, hs⟩ : ∃ s, (st.getD q 0).toNat = s := ⟨_, rfl⟩
  rw [hs]
  have hp : totS (padS (stgsTo st q) s) = q := by
   unfold padS
   rw [totS_app, totS_nil, ih]
   rfl
  have h := totS_set (padS (stgsTo st q) s) s ((padS (stgsTo st q) s).getD s [] ++ [(q : Int)]) (by rw [padS_len]; omega)
  rw [List.length_append, List.length_singleton, hp] at h
  omega
theorem fs_l1 {g : List S29} (hg : gok g = true) {out : List (List Int)} (acc : Int) {s : Nat} (hs : s < out.length) (hs8 : s ≤ 8) (hP : rd_L1 out (s : Int) = castL (partS (stg g) g.length s)) (hne : partS (stg g) g.length s ≠ []) : ∀ (d i k : Nat), i + d = (partS (stg g) g.length s).length → d + 2 ≤ k →
  ∃ k', k ≤ k' + d + 1 ∧ laws_FnStagesOf.l1 k g out (stg g) acc (s : Int) (i : Int) = laws_FnStagesOf.l0 k' g out (stg g) acc ((s + 1 : Nat) : Int) := by
 have h8 := gok8 hg
 have hsl := stg_len g
 have hpl := partS_len (stg g) g.length s
 have hsort := partS_sorted (stg g) g.length s
 have hpos : 0 < (partS (stg g) g.length s).length := List.length_pos_iff.2 hne
 obtain ⟨L, hL⟩ : ∃ L, partS (stg g) g.length s = L := ⟨_, rfl⟩
 have hmem : ∀ x, x ∈ L → x < g.length ∧ (stg g).getD x 0 = (s : Int) := fun x hx => partS_mem.1 (hL ▸ hx)
 rw [hL] at hpl hsort hpos hP ⊢
 have hcl := castL_length L
 intro d
 induction d with
 | zero =>
  intro i k hi hk
  obtain ⟨k, rfl⟩ : ∃ m, k = m + 1 := ⟨k - 1, by omega⟩
  refine ⟨k, by omega, ?_⟩
  rw [laws_FnStagesOf.l1, if_pos (by omega), if_pos (by omega), hP, if_neg (by omega), if_neg (by omega), nx (m := 100) (by omega) (by omega)]
 | succ d ih =>
  intro i k hi hk
  obtain ⟨k, rfl⟩ : ∃ m, k = m + 1 := ⟨k - 1, by omega⟩
  have hil : i < L.length := by omega
  obtain ⟨t, ht⟩ : ∃ t, L.getD i 0 = t := ⟨_, rfl⟩
  have htm : t ∈ L := by rw [← ht, List.getD_eq_getElem?_getD, List.getElem?_eq_getElem hil]; exact List.getElem_mem hil
  obtain ⟨htn, hts⟩ := hmem t htm
  have ert : rd (castL L) (i : Int) = (t : Int) := by rw [rd_castL, ht]
  have est : rd (stg g) (t : Int) = (s : Int) := hts
  obtain ⟨k', h1, h2⟩ := ih (i + 1) k (by omega) (by omega)
  refine ⟨k', by omega, ?_⟩
  rw [laws_FnStagesOf.l1, if_pos (by omega), if_pos (by omega), hP, if_pos (by omega), if_pos (by omega), ert, if_neg (by omega), if_neg (by omega), if_pos (by omega), if_pos (by omega), est, if_pos rfl, nx (m := 100) (by omega) (by omega)]
  by_cases c : (i : Int) > 0
  ·have hw : wrap64 ((i : Int) - 1) = ((i - 1 : Nat) : Int) := by rw [w64 (by omega) (by omega)]; omega
   have hlt : L.getD (i - 1) 0 < t := by
    rw [← ht, List.getD_eq_getElem?_getD, List.getD_eq_getElem?_getD, List.getElem?_eq_getElem hil, List.getElem?_eq_getElem (show i - 1 < L.length by omega)]
    exact (List.pairwise_iff_getElem.1 hsort) (i - 1) i (by omega) hil (by omega)
   rw [if_pos c, hw, if_pos (by omega), if_pos (by omega), rd_castL, if_neg (by omega)]
   exact h2
  ·rw [if_neg c]
   exact h2
theorem fs_l0 {g : List S29} (hg : gok g = true) : ∀ (d s k : Nat), s + d = (stgsTo (stg g) g.length).length → d * 20 + 20 ≤ k →
  laws_FnStagesOf.l0 k g (stgsTo (stg g) g.length) (stg g) (totS ((stgsTo (stg g) g.length).take s) : Int) (s : Int) = some true := by
 have h8 := gok8 hg
 have hbd := stgsTo_bd (st := stg g) (n := g.length) (fun i hi => stg_lt hg hi) g.length (Nat.le_refl _)
 have htot := totS_stgs (stg g) g.length
 intro d
 induction d with
 | zero =>
  intro s k hi hk
  obtain ⟨k, rfl⟩ : ∃ m, k = m + 1 := ⟨k - 1, by omega⟩
  rw [laws_FnStagesOf.l0, if_neg (by omega), List.take_of_length_le (by omega), htot]
  simp
 | succ d ih =>
  intro s k hi hk
  obtain ⟨k, rfl⟩ : ∃ m, k = m + 1 := ⟨k - 1, by omega⟩
  have hs : s < (stgsTo (stg g) g.length).length := by omega
  have hP : rd_L1 (stgsTo (stg g) g.length) (s : Int) = castL (partS (stg g) g.length s) := stgsTo_getD g.length (fun i hi => (stg_lt hg hi).1) s
  have hpl := partS_len (stg g) g.length s
  have htk := stgs_take hg hs
  have ht1 : totS ((stgsTo (stg g) g.length).take (s + 1)) = totS ((stgsTo (stg g) g.length).take s) + (partS (stg g) g.length s).length := by
   rw [htk, totS_app]
   congr 1
   simp [totS, castL]
  have hle : totS ((stgsTo (stg g) g.length).take (s + 1)) ≤ g.length := by
   have h := totS_app ((stgsTo (stg g) g.length).take (s + 1)) ((stgsTo (stg g) g.length).drop (s + 1))
   rw [List.take_append_drop, htot] at h
   omega
  rw [laws_FnStagesOf.l0, if_pos (by omega), if_pos (by omega), hP, castL_length, w64 (by omega) (by omega)]
  obtain ⟨k', h1, h2⟩ := fs_l1 hg ((totS ((stgsTo (stg g) g.length).take (s + 1)) : Nat) : Int) hs (by omega) hP (part_some hg hs) (partS (stg g) g.length s).length 0 k (by omega) (by omega)
  rw [show ((0 : Nat) : Int) = 0 from rfl] at h2
  rw [show (totS ((stgsTo (stg g) g.length).take s) : Int) + ((partS (stg g) g.length s).length : Int) = ((totS ((stgsTo (stg g) g.length).take (s + 1)) : Nat) : Int) by omega, h2]
  exact ih (s + 1) k' (by omega) (by omega)
theorem pureFnStagesOf : laws_FnStagesOf.Pure := by
 intro l hm hl hw
 obtain ⟨k, hk⟩ : ∃ k, 4000 ≤ k := ⟨4000, Nat.le_refl _⟩
 refine ⟨k, ?_⟩
 unfold laws_FnStagesOf.f
 by_cases h1 : (l.length : Int) > 1048576
 ·rw [if_pos h1]
 rw [if_neg h1]
 obtain ⟨g, hd, hsm⟩ := drawStagesOf l hw
 have hsmall : Small 100 g := ⟨Nat.le_trans hsm.len (by decide), fun t ht => Nat.le_trans (hsm.nd t ht) (by decide)⟩
 obtain ⟨m, rfl⟩ : ∃ m, k = m + 1 := ⟨k - 1, by omega⟩
 by_cases hg : gok g = true
 ·have h8 := gok8 hg
  have hbd := stgsTo_bd (st := stg g) (n := g.length) (fun i hi => stg_lt hg hi) g.length (Nat.le_refl _)
  have hv : impl_StagesOf.f g = some (stgsTo (stg g) g.length) := by unfold impl_StagesOf.f; rw [if_pos hg]
  have hspec : ∀ k, 950 ≤ k → spec_StagesOf.f k g = some (stgsTo (stg g) g.length) := fun k hk => (specStages_eq (B := 100) (by decide) hsmall k (by omega)).trans hv
  have heq : ∀ k, 2020 ≤ k → laws_equalLists.f k (stgsTo (stg g) g.length) (stgsTo (stg g) g.length) = some true := fun k hk => eqLL_refl _ k (by omega) (fun x hx => by have := hbd.2 x hx; omega) hk
  simp only [hd, Option.bind_some, hv, hspec (m + 1) (by omega), heq (m + 1) (by omega), if_true]
  cases e : (((stgsTo (stg g) g.length).length : Int) == 0) with
  | true =>
   rw [laws_FnStagesOf.j0, if_pos rfl]
   simp only [hspec m (by omega), Option.bind_some, heq m (by omega)]
  | false =>
   rw [laws_FnStagesOf.j0, if_neg (by decide), show impl_StageOf.f g = some (stg g) by unfold impl_StageOf.f; rw [if_pos hg]]
   simp only [Option.bind_some]
   have h := fs_l0 hg (stgsTo (stg g) g.length).length 0 m (by omega) (by omega)
   rw [List.take_zero] at h
   exact h
 ·have hv : impl_StagesOf.f g = some [] := by unfold impl_StagesOf.f; rw [if_neg hg]
  have hspec : ∀ k, 950 ≤ k → spec_StagesOf.f k g = some [] := fun k hk => (specStages_eq (B := 100) (by decide) hsmall k (by omega)).trans hv
  have heq : ∀ k, 2020 ≤ k → laws_equalLists.f k [] [] = some true := fun k hk => eqLL_refl _ k (by simp) (fun x hx => by cases hx) hk
  simp only [hd, Option.bind_some, hv, hspec (m + 1) (by omega), heq (m + 1) (by omega), if_true]
  rw [show (((([] : List (List Int)).length : Nat) : Int) == 0) = true from rfl, laws_FnStagesOf.j0, if_pos rfl]
  simp only [hspec m (by omega), Option.bind_some, heq m (by omega)]
end Go.Proofs.YtbodhggmhbiebaaDoor.G
