/- FnUselessNeedsNone: for every code, each useless need of a task comes a stage lower than another one of its needs. Nothing is assumed. -/
import Derived.Test.YtbodhggmhbiebaaDoorQUse
import Derived.Test.YtbodhggmhbiebaaDoorQAny
import Derived.Test.YtbodhggmhbiebaaDoorHRel
import Derived.Test.YtbodhggmhbiebaaDoorQEqLL
import Derived.Test.YtbodhggmhbiebaaDoorLFnUselessNeedsNone
import Derived.Test.YtbodhggmhbiebaaDoorG0
import Derived.Test.YtbodhggmhbiebaaDoorG10
import Derived.Test.YtbodhggmhbiebaaDoorG8
import Derived.Test.YtbodhggmhbiebaaDoorLFnUselessNeedsNone
namespace Go.Proofs.YtbodhggmhbiebaaDoor.G
open Go.RowKit Go.Proofs.YtbodhggmhbiebaaDoorW.PrintWords Go.Proofs.YtbodhggmhbiebaaDoorW.PrintLast Go.Proofs.YtbodhggmhbiebaaDoorW.PrintMore C
set_option linter.unusedVariables false
set_option linter.unusedSimpArgs false

theorem un_l1 {g : List S29} (hg : gok g = true) {out : List (List Int)} {i x q : Nat} (hi : i < g.length) (hq : q < out.length) (hq8 : q ≤ 1000) (hrow : rd_L1 out (q : Int) = [((i : Nat) : Int), ((x : Nat) : Int)]) (hx : x < g.length) : ∀ (rest pre : List Int) (b : Bool) (k : Nat), (rd_T29 g (i : Int)).f1 = pre ++ rest → rest.length + 2 ≤ k →
  (b = true ∨ ∃ y, y ∈ rest ∧ (stg g).getD x 0 < (stg g).getD y.toNat 0) →
  ∃ k', k ≤ k' + rest.length + 1 ∧ laws_FnUselessNeedsNone.l1 k g out (stg g) (q : Int) (rd_T29 g (i : Int)).f1 b (pre.length : Int) = laws_FnUselessNeedsNone.l0 k' g out (stg g) ((q + 1 : Nat) : Int) := by
 have hf := gok_fine hg
 have h8 := gok8 hg
 have hlo := stg_len g
 obtain ⟨hn8, h0⟩ := needs_len hf hi
 intro rest
 induction rest with
 | nil =>
  intro pre b k e hk hb
  obtain ⟨k, rfl⟩ : ∃ m, k = m + 1 := ⟨k - 1, by omega⟩
  have hbt : b = true := by
   rcases hb with h | ⟨y, hy, _⟩
   ·exact h
   ·cases hy
  refine ⟨k, by simp, ?_⟩
  rw [laws_FnUselessNeedsNone.l1, if_neg (by rw [e]; simp), if_pos hbt, nx (m := 100000) (by omega) (by omega)]
 | cons y r ih =>
  intro pre b k e hk hb
  obtain ⟨k, rfl⟩ : ∃ m, k = m + 1 := ⟨k - 1, by omega⟩
  simp only [List.length_cons] at hk
  have hlt : pre.length < (rd_T29 g (i : Int)).f1.length := by rw [e]; simp
  have hy0 := h0 y (by rw [e]; simp)
  have hym : y.toNat ∈ nds g i := List.mem_map.2 ⟨y, by rw [e]; simp, rfl⟩
  have hyn := nds_lt hf hi hym
  have hrd : rd (rd_T29 g (i : Int)).f1 (pre.length : Int) = y := by rw [e]; exact rd_app _ _ _
  have er1 : rd [((i : Nat) : Int), ((x : Nat) : Int)] 1 = (x : Int) := rfl
  have esx : rd (stg g) (x : Int) = (stg g).getD x 0 := rfl
  have esy : rd (stg g) y = (stg g).getD y.toNat 0 := rfl
  have el2 : (([((i : Nat) : Int), ((x : Nat) : Int)].length : Nat) : Int) = 2 := rfl
  rw [laws_FnUselessNeedsNone.l1, if_pos (by omega), nx (m := 8) (by omega) (by omega)]
  cases b with
  | true =>
   rw [if_pos rfl]
   obtain ⟨k', h1, h2⟩ := ih (pre ++ [y]) true k (by rw [e]; simp) (by omega) (.inl rfl)
   rw [List.length_append, List.length_singleton] at h2
   exact ⟨k', by simp only [List.length_cons]; omega, h2⟩
  | false =>
   rw [if_neg (by decide), if_pos (by omega), hrd, if_pos (by omega), if_pos (by omega), if_pos (by omega), if_pos (by omega), hrow, el2, if_pos (by omega), er1, if_pos (by omega), if_pos (by omega), esx, esy]
   obtain ⟨k', h1, h2⟩ := ih (pre ++ [y]) (decide ((stg g).getD y.toNat 0 > (stg g).getD x 0)) k (by rw [e]; simp) (by omega) (by
    rcases hb with h | ⟨z, hz, hzv⟩
    ·cases h
    ·rcases List.mem_cons.1 hz with rfl | hz
     ·exact .inl (decide_eq_true hzv)
     ·exact .inr ⟨z, hz, hzv⟩)
   rw [List.length_append, List.length_singleton] at h2
   exact ⟨k', by simp only [List.length_cons]; omega, h2⟩
theorem un_row {g : List S29} (hg : gok g = true) {r : List Int} (hr : r ∈ uselTo (ndm g) (bel g) g.length) : ∃ i x, r = [((i : Nat) : Int), ((x : Nat) : Int)] ∧ i < g.length ∧ x < g.length ∧ ∃ y, y ∈ (rd_T29 g (i : Int)).f1 ∧ (stg g).getD x 0 < (stg g).getD y.toNat 0 := by
 unfold uselTo at hr
 rw [List.mem_flatMap] at hr
 obtain ⟨i, hi, hr⟩ := hr
 rw [List.mem_range] at hi
 obtain ⟨x, hx, rfl⟩ := List.mem_map.1 hr
 rw [usel_elems hg hi, List.mem_filter, usel_true hg hi] at hx
 obtain ⟨hxn, k, hk, hreach⟩ := hx
 have hkn := nds_lt (gok_fine hg) hi hk
 refine ⟨i, x, rfl, hi, nds_lt (gok_fine hg) hi hxn, ?_⟩
 obtain ⟨y, hy, rfl⟩ := List.mem_map.1 hk
 exact ⟨y, hy, stg_reach hg hreach hkn⟩
theorem un_l0 {g : List S29} (hg : gok g = true) {out : List (List Int)} (ho : out = uselTo (ndm g) (bel g) g.length) : ∀ (d q k : Nat), q + d = out.length → d * 20 + 20 ≤ k → laws_FnUselessNeedsNone.l0 k g out (stg g) (q : Int) = some true := by
 have h8 := gok8 hg
 have hul := uselTo_len (ndm g) (bel g) g.length
 rw [← ho] at hul
 intro d
 induction d with
 | zero =>
  intro q k hi hk
  obtain ⟨k, rfl⟩ : ∃ m, k = m + 1 := ⟨k - 1, by omega⟩
  rw [laws_FnUselessNeedsNone.l0, if_neg (by omega)]
 | succ d ih =>
  intro q k hi hk
  obtain ⟨k, rfl⟩ : ∃ m, k = m + 1 := ⟨k - 1, by omega⟩
  have hq : q < out.length := by omega
  have hmem : rd_L1 out (q : Int) ∈ uselTo (ndm g) (bel g) g.length := by
   rw [← ho]
   unfold rd_L1
   rw [Int.toNat_natCast, List.getD_eq_getElem?_getD, List.getElem?_eq_getElem hq]
   exact List.getElem_mem hq
  obtain ⟨i, x, hrow, hin, hxn, hy⟩ := un_row hg hmem
  have er0 : rd [((i : Nat) : Int), ((x : Nat) : Int)] 0 = (i : Int) := rfl
  have el2 : (([((i : Nat) : Int), ((x : Nat) : Int)].length : Nat) : Int) = 2 := rfl
  have hn8 := (needs_len (gok_fine hg) hin).1
  obtain ⟨k', h1, h2⟩ := un_l1 hg hin hq (by omega) hrow hxn (rd_T29 g (i : Int)).f1 [] false k rfl (by omega) (.inr hy)
  rw [show ((([] : List Int).length : Nat) : Int) = 0 from rfl] at h2
  rw [laws_FnUselessNeedsNone.l0, if_pos (by omega), if_pos (by omega), hrow, el2, if_pos (by omega), er0, if_pos (by omega), if_pos (by omega), h2]
  exact ih (q + 1) k' (by omega) (by omega)
theorem pureFnUselessNeedsNone : laws_FnUselessNeedsNone.Pure := by
 intro l hm hl hw
 obtain ⟨k, hk⟩ : ∃ k, 5000 ≤ k := ⟨5000, Nat.le_refl _⟩
 refine ⟨k, ?_⟩
 unfold laws_FnUselessNeedsNone.f
 by_cases h1 : (l.length : Int) > 1048576
 ·rw [if_pos h1]
 rw [if_neg h1]
 obtain ⟨g, hd, hsm⟩ := drawUselessNeeds l hw
 have hsmall : Small 100 g := ⟨Nat.le_trans hsm.len (by decide), fun t ht => Nat.le_trans (hsm.nd t ht) (by decide)⟩
 obtain ⟨m, rfl⟩ : ∃ m, k = m + 1 := ⟨k - 1, by omega⟩
 by_cases hg : gok g = true
 ·have h8 := gok8 hg
  have hul := uselTo_len (ndm g) (bel g) g.length
  have hv : impl_UselessNeeds.f g = some (uselTo (ndm g) (bel g) g.length) := by unfold impl_UselessNeeds.f; rw [if_pos hg]
  have hspec : ∀ k, 1300 ≤ k → spec_UselessNeeds.f k g = some (uselTo (ndm g) (bel g) g.length) := fun k hk => (specUseless_eq (B := 100) (by decide) hsmall k (by omega)).trans hv
  have heq : ∀ k, 2020 ≤ k → laws_equalLists.f k (uselTo (ndm g) (bel g) g.length) (uselTo (ndm g) (bel g) g.length) = some true := fun k hk => eqLL_refl _ k (by omega) (fun r hr => by obtain ⟨i, x, e, _⟩ := un_row hg hr; rw [e]; simp) hk
  simp only [hd, Option.bind_some, hv, hspec (m + 1) (by omega), heq (m + 1) (by omega), if_true, show impl_ValidGraph.f g = some (gok g) from rfl, hg]
  rw [show (!true) = false from rfl, laws_FnUselessNeedsNone.j0, if_neg (by decide), show impl_StageOf.f g = some (stg g) by unfold impl_StageOf.f; rw [if_pos hg]]
  simp only [Option.bind_some]
  exact un_l0 hg rfl _ 0 m (Nat.zero_add _) (by omega)
 ·have hv : impl_UselessNeeds.f g = some [] := by unfold impl_UselessNeeds.f; rw [if_neg hg]
  have hspec : ∀ k, 1300 ≤ k → spec_UselessNeeds.f k g = some [] := fun k hk => (specUseless_eq (B := 100) (by decide) hsmall k (by omega)).trans hv
  have heq : ∀ k, 2020 ≤ k → laws_equalLists.f k [] [] = some true := fun k hk => eqLL_refl _ k (by simp) (fun x hx => by cases hx) hk
  simp only [hd, Option.bind_some, hv, hspec (m + 1) (by omega), heq (m + 1) (by omega), if_true, show impl_ValidGraph.f g = some (gok g) from rfl, Bool.eq_false_iff.2 hg]
  rw [show (!false) = true from rfl, laws_FnUselessNeedsNone.j0, if_pos rfl]
  simp only [hspec m (by omega), Option.bind_some, heq m (by omega)]
end Go.Proofs.YtbodhggmhbiebaaDoor.G
