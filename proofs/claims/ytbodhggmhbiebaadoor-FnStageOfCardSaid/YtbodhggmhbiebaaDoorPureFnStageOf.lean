/- FnStageOf: for every code, each task's stage is one more than the greatest of its needs' stages, and 0 without needs. Nothing is assumed. -/
import Derived.Test.YtbodhggmhbiebaaDoorQStage
import Derived.Test.YtbodhggmhbiebaaDoorQAny
import Derived.Test.YtbodhggmhbiebaaDoorQEqualInts
import Derived.Test.YtbodhggmhbiebaaDoorLFnStageOf
import Derived.Test.YtbodhggmhbiebaaDoorG0
import Derived.Test.YtbodhggmhbiebaaDoorG4
import Derived.Test.YtbodhggmhbiebaaDoorLFnStageOf
namespace Go.Proofs.YtbodhggmhbiebaaDoor.G
open Go.RowKit Go.Proofs.YtbodhggmhbiebaaDoorW.PrintWords Go.Proofs.YtbodhggmhbiebaaDoorW.PrintLast Go.Proofs.YtbodhggmhbiebaaDoorW.PrintMore C
set_option linter.unusedVariables false
set_option linter.unusedSimpArgs false

theorem so_l1 {g : List S29} (hg : gok g = true) {i : Nat} (hi : i < g.length) : ∀ (rest pre : List Int) (b : Bool) (k : Nat), (rd_T29 g (i : Int)).f1 = pre ++ rest → rest.length + 2 ≤ k →
  (b = true ∨ ∃ x, x ∈ rest ∧ (stg g).getD x.toNat 0 + 1 = (stg g).getD i 0) →
  ∃ k', k ≤ k' + rest.length + 1 ∧ laws_FnStageOf.l1 k g (stg g) (i : Int) b (pre.length : Int) = laws_FnStageOf.l0 k' g (stg g) ((i + 1 : Nat) : Int) := by
 have hf := gok_fine hg
 have h8 := gok8 hg
 have hlo := stg_len g
 obtain ⟨hn8, h0⟩ := needs_len hf hi
 have ht := stg_top hg hi
 intro rest
 induction rest with
 | nil =>
  intro pre b k e hk hb
  obtain ⟨k, rfl⟩ : ∃ m, k = m + 1 := ⟨k - 1, by omega⟩
  have hp : pre.length = (rd_T29 g (i : Int)).f1.length := by rw [e]; simp
  have hbt : b = true := by
   rcases hb with h | ⟨x, hx, _⟩
   ·exact h
   ·cases hx
  refine ⟨k, by simp, ?_⟩
  rw [laws_FnStageOf.l1, if_pos (by omega), if_pos (by omega), if_neg (by omega), if_pos hbt, nx (m := 8) (by omega) (by omega)]
 | cons x r ih =>
  intro pre b k e hk hb
  obtain ⟨k, rfl⟩ : ∃ m, k = m + 1 := ⟨k - 1, by omega⟩
  simp only [List.length_cons] at hk
  have hlt : pre.length < (rd_T29 g (i : Int)).f1.length := by rw [e]; simp
  have hx0 := h0 x (by rw [e]; simp)
  have hxm : x.toNat ∈ nds g i := List.mem_map.2 ⟨x, by rw [e]; simp, rfl⟩
  have hxn := nds_lt hf hi hxm
  have hge := ht.ge _ hxm
  have hsb := stg_lt hg hxn
  have hrd : rd (rd_T29 g (i : Int)).f1 (pre.length : Int) = x := by rw [e]; exact rd_app _ _ _
  have erx : rd (stg g) x = (stg g).getD x.toNat 0 := rfl
  have eri : rd (stg g) (i : Int) = (stg g).getD i 0 := rfl
  rw [laws_FnStageOf.l1, if_pos (by omega), if_pos (by omega), if_pos (by omega), if_pos (by omega), hrd, if_pos (by omega), if_pos (by omega), erx, eri, nx (m := 8) (by omega) (by omega), w64 (x := (stg g).getD x.toNat 0 + 1) (by omega) (by omega)]
  cases b with
  | true =>
   rw [if_pos rfl, if_pos (by omega), if_neg (by omega)]
   obtain ⟨k', h1, h2⟩ := ih (pre ++ [x]) true k (by rw [e]; simp) (by omega) (.inl rfl)
   rw [List.length_append, List.length_singleton] at h2
   exact ⟨k', by simp only [List.length_cons]; omega, h2⟩
  | false =>
   rw [if_neg (by decide), if_pos (by omega), if_neg (by omega)]
   obtain ⟨k', h1, h2⟩ := ih (pre ++ [x]) ((stg g).getD x.toNat 0 + 1 == (stg g).getD i 0) k (by rw [e]; simp) (by omega) (by
    rcases hb with h | ⟨y, hy, hyv⟩
    ·cases h
    ·rcases List.mem_cons.1 hy with rfl | hy
     ·exact .inl (beq_iff_eq.2 hyv)
     ·exact .inr ⟨y, hy, hyv⟩)
   rw [List.length_append, List.length_singleton] at h2
   exact ⟨k', by simp only [List.length_cons]; omega, h2⟩
theorem so_l0 {g : List S29} (hg : gok g = true) : ∀ (d i k : Nat), i + d = g.length → d * 20 + 20 ≤ k → laws_FnStageOf.l0 k g (stg g) (i : Int) = some true := by
 have hf := gok_fine hg
 have h8 := gok8 hg
 have hlo := stg_len g
 intro d
 induction d with
 | zero =>
  intro i k hi hk
  obtain ⟨k, rfl⟩ : ∃ m, k = m + 1 := ⟨k - 1, by omega⟩
  rw [laws_FnStageOf.l0, if_neg (by omega)]
 | succ d ih =>
  intro i k hi hk
  obtain ⟨k, rfl⟩ : ∃ m, k = m + 1 := ⟨k - 1, by omega⟩
  have hin : i < g.length := by omega
  obtain ⟨hn8, h0⟩ := needs_len hf hin
  have ht := stg_top hg hin
  have eri : rd (stg g) (i : Int) = (stg g).getD i 0 := rfl
  have go : ∀ b, (b = true ∨ ∃ x, x ∈ (rd_T29 g (i : Int)).f1 ∧ (stg g).getD x.toNat 0 + 1 = (stg g).getD i 0) → laws_FnStageOf.j2 k g (stg g) (i : Int) b = some true := fun b hb => by
   obtain ⟨q, rfl⟩ : ∃ m, k = m + 1 := ⟨k - 1, by omega⟩
   rw [laws_FnStageOf.j2]
   obtain ⟨k', h1, h2⟩ := so_l1 hg hin (rd_T29 g (i : Int)).f1 [] b q rfl (by omega) hb
   rw [show ((([] : List Int).length : Nat) : Int) = 0 from rfl] at h2
   rw [h2]
   exact ih (i + 1) k' (by omega) (by omega)
  have hex : (rd_T29 g (i : Int)).f1 ≠ [] → ∃ x, x ∈ (rd_T29 g (i : Int)).f1 ∧ (stg g).getD x.toNat 0 + 1 = (stg g).getD i 0 := fun hne => by
   rcases ht.from_ with h | ⟨k, hk, h⟩
   ·obtain ⟨y, hy⟩ := List.exists_mem_of_ne_nil _ hne
    have hym : y.toNat ∈ nds g i := List.mem_map.2 ⟨y, hy, rfl⟩
    have := ht.ge _ hym
    have := (stg_lt hg (nds_lt hf hin hym)).1
    omega
   ·obtain ⟨y, hy, rfl⟩ := List.mem_map.1 hk
    exact ⟨y, hy, by omega⟩
  rw [laws_FnStageOf.l0, if_pos (by omega), if_pos (by omega)]
  by_cases c : (((rd_T29 g (i : Int)).f1).length : Int) = 0
  ·rw [if_pos c, if_pos (by omega), eri]
   refine go _ (.inl ?_)
   rw [beq_iff_eq]
   rcases ht.from_ with h | ⟨k, hk, h⟩
   ·exact h
   ·obtain ⟨y, hy, rfl⟩ := List.mem_map.1 hk
    have hnil : (rd_T29 g (i : Int)).f1 = [] := List.eq_nil_of_length_eq_zero (by omega)
    rw [hnil] at hy
    cases hy
  ·rw [if_neg c]
   exact go false (.inr (hex (fun e => c (by rw [e]; rfl))))
theorem pureFnStageOf : laws_FnStageOf.Pure := by
 intro l hm hl hw
 obtain ⟨k, hk⟩ : ∃ k, 2000 ≤ k := ⟨2000, Nat.le_refl _⟩
 refine ⟨k, ?_⟩
 unfold laws_FnStageOf.f
 by_cases h1 : (l.length : Int) > 1048576
 ·rw [if_pos h1]
 rw [if_neg h1]
 obtain ⟨g, hd, hsm⟩ := drawStageOf l hw
 have hsmall : Small 100 g := ⟨Nat.le_trans hsm.len (by decide), fun t ht => Nat.le_trans (hsm.nd t ht) (by decide)⟩
 obtain ⟨m, rfl⟩ : ∃ m, k = m + 1 := ⟨k - 1, by omega⟩
 obtain ⟨r, hv, h8, hcase⟩ := stage_val g
 have hspec : ∀ k, 950 ≤ k → spec_StageOf.f k g = some r := fun k hk => (specStage_eq (B := 100) (by decide) hsmall k (by omega)).trans hv
 simp only [hd, Option.bind_some, hv, hspec (m + 1) (by omega), eqI_refl r (m + 1) (by omega) (by omega), if_true]
 cases e : ((r.length : Int) != (g.length : Int)) with
 | true =>
  rw [laws_FnStageOf.j0, if_pos rfl]
  simp only [hspec m (by omega), Option.bind_some, eqI_refl r m (by omega) (by omega)]
 | false =>
  rw [laws_FnStageOf.j0, if_neg (by decide)]
  rcases hcase with ⟨hg, er, hlr⟩ | ⟨hg, rfl⟩
  ·rw [er]
   exact so_l0 hg g.length 0 m (by omega) (by have := gok8 hg; omega)
  ·have h0 : g.length = 0 := by
    have := bne_eq_false_iff_eq.1 e
    simp at this
    simpa using this.symm
   obtain ⟨q, rfl⟩ : ∃ q, m = q + 1 := ⟨m - 1, by omega⟩
   rw [laws_FnStageOf.l0, if_neg (by omega)]
end Go.Proofs.YtbodhggmhbiebaaDoor.G
