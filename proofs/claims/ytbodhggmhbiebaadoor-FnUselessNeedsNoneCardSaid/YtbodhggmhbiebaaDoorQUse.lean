/-
 UselessNeeds: the reference answers what the program answers.
-/
import Derived.Test.YtbodhggmhbiebaaDoorHUse
import Derived.Test.YtbodhggmhbiebaaDoorQStage
import Derived.Test.YtbodhggmhbiebaaDoorG0
import Derived.Test.YtbodhggmhbiebaaDoorG10
namespace Go.Proofs.YtbodhggmhbiebaaDoor.G
open Go.RowKit Go.Proofs.YtbodhggmhbiebaaDoorW.PrintWords Go.Proofs.YtbodhggmhbiebaaDoorW.PrintLast Go.Proofs.YtbodhggmhbiebaaDoorW.PrintMore C
set_option linter.unusedVariables false
set_option linter.unusedSimpArgs false

/-- Need x of task i is useless. -/
def usel (g : List S29) (i x : Nat) : Bool := (nds g i).any (fun k => (elems ((bel g).getD k 0)).contains x)
theorem uselGo_bits {g : List S29} (hg : gok g = true) {i : Nat} (hi : i < g.length) : ∀ (L : List Nat) (s : Nat) (P : Nat → Prop), (∀ k, k ∈ L → k < g.length) → Bits s P → Bits (L.foldl (uselStep (ndm g) (bel g) i) s) (fun x => P x ∨ (x ∈ nds g i ∧ ∃ k, k ∈ L ∧ C.Reach (nds g) k x))
 | [], s, P, _, h => h.congr (fun x => by simp)
 | k :: r, s, P, hL, h => by
  have hk := hL k (by simp)
  have h1 := h.or ((ndm_bits (gok_fine hg) hi).and (bel_bits hg hk))
  refine (uselGo_bits hg hi r _ _ (fun j hj => hL j (by simp [hj])) h1).congr (fun x => ?_)
  constructor
  ·rintro ((h | ⟨h, h2⟩) | ⟨h, j, hj, h2⟩)
   ·exact .inl h
   ·exact .inr ⟨h, k, by simp, h2⟩
   ·exact .inr ⟨h, j, by simp [hj], h2⟩
  ·rintro (h | ⟨h, j, hj, h2⟩)
   ·exact .inl (.inl h)
   ·rcases List.mem_cons.1 hj with rfl | hj
    ·exact .inl (.inr ⟨h, h2⟩)
    ·exact .inr ⟨h, j, hj, h2⟩
theorem usel_true {g : List S29} (hg : gok g = true) {i x : Nat} (hi : i < g.length) : usel g i x = true ↔ ∃ k, k ∈ nds g i ∧ C.Reach (nds g) k x := by
 unfold usel
 rw [List.any_eq_true]
 constructor
 ·rintro ⟨k, hk, h⟩
  have hb := bel_bits hg (nds_lt (gok_fine hg) hi hk)
  exact ⟨k, hk, (hb.iff x).1 ((mem_elems hb.lt).1 (List.contains_iff_mem.1 h))⟩
 ·rintro ⟨k, hk, h⟩
  have hb := bel_bits hg (nds_lt (gok_fine hg) hi hk)
  exact ⟨k, hk, List.contains_iff_mem.2 ((mem_elems hb.lt).2 ((hb.iff x).2 h))⟩
theorem usel_elems {g : List S29} (hg : gok g = true) {i : Nat} (hi : i < g.length) : elems (uselN (ndm g) (bel g) i) = (nds g i).filter (usel g i) := by
 have hf := gok_fine hg
 unfold uselN
 rw [ndsS_elems hf hi]
 refine (uselGo_bits hg hi (nds g i) 0 (fun _ => False) (fun k hk => nds_lt hf hi hk) Bits.zero).elems_eq (List.Pairwise.filter _ (ascS_sorted _ _ (by omega) (fine_needs hf hi))) (fun x => ?_)
 rw [List.mem_filter, usel_true hg hi]
 constructor
 ·rintro ⟨h1, h2⟩
  exact .inr ⟨h1, h2⟩
 ·rintro (h | ⟨h1, h2⟩)
  ·exact h.elim
  ·exact ⟨h1, h2⟩
theorem isUseless_go {g : List S29} (hg : gok g = true) {i x : Nat} (hi : i < g.length) : ∀ (rest pre : List Int) (k : Nat), (rd_T29 g (i : Int)).f1 = pre ++ rest → rest.length + 700 ≤ k →
  spec_isUseless.l0 k g (i : Int) (x : Int) (pre.length : Int) = some ((rest.map Int.toNat).any (fun k => (elems ((bel g).getD k 0)).contains x)) := by
 have hf := gok_fine hg
 have h8 := gok8 hg
 obtain ⟨hn8, h0⟩ := needs_len hf hi
 intro rest
 induction rest with
 | nil =>
  intro pre k e hk
  obtain ⟨k, rfl⟩ : ∃ m, k = m + 1 := ⟨k - 1, by omega⟩
  rw [spec_isUseless.l0, if_pos (by omega), if_pos (by omega), if_neg (by rw [e]; simp)]
  rfl
 | cons y r ih =>
  intro pre k e hk
  obtain ⟨k, rfl⟩ : ∃ m, k = m + 1 := ⟨k - 1, by omega⟩
  simp only [List.length_cons] at hk
  have hlt : pre.length < (rd_T29 g (i : Int)).f1.length := by rw [e]; simp
  have hy0 := h0 y (by rw [e]; simp)
  have hym : y.toNat ∈ nds g i := List.mem_map.2 ⟨y, by rw [e]; simp, rfl⟩
  have hyn := nds_lt hf hi hym
  have hrd : rd (rd_T29 g (i : Int)).f1 (pre.length : Int) = ((y.toNat : Nat) : Int) := by rw [e, rd_app]; omega
  have hel := elems_len ((bel g).getD y.toNat 0)
  rw [spec_isUseless.l0, if_pos (by omega), if_pos (by omega), if_pos (by omega), if_pos (by omega), hrd, allNeeds_eq hg hyn k (by omega)]
  simp only [Option.bind_some]
  rw [isIn_eq (by rw [castL_length]; omega) _ _ (by rw [castL_length]; omega), toNat_contains (by omega), Int.toNat_natCast]
  simp only [Option.bind_some]
  rw [List.map_cons, List.any_cons]
  by_cases c : (elems ((bel g).getD y.toNat 0)).contains x = true
  ·rw [if_pos c, c, Bool.true_or]
  ·rw [if_neg c, Bool.eq_false_iff.2 c, Bool.false_or, nx (m := 8) (by omega) (by omega)]
   have hih := ih (pre ++ [y]) k (by rw [e]; simp) (by omega)
   rw [List.length_append, List.length_singleton] at hih
   exact hih
theorem isUseless_eq {g : List S29} (hg : gok g = true) {i x : Nat} (hi : i < g.length) (k : Nat) (hk : 720 ≤ k) : spec_isUseless.f k g (i : Int) (x : Int) = some (usel g i x) := by
 have hn := (needs_len (gok_fine hg) hi).1
 unfold spec_isUseless.f
 exact isUseless_go hg hi _ [] k rfl (by omega)
theorem useless_l1 {g : List S29} (hg : gok g = true) {i : Nat} (hi : i < g.length) : ∀ (rest pre : List Int) (out : List (List Int)) (k : Nat), (rd_T29 g (i : Int)).f1 = pre ++ rest → out.length + rest.length ≤ 1000 → rest.length + 730 ≤ k →
  spec_UselessNeeds.l1 k g out (i : Int) (pre.length : Int) = spec_UselessNeeds.l0 (k - (rest.length + 1)) g (out ++ ((rest.map Int.toNat).filter (usel g i)).map (fun (x : Nat) => [((i : Nat) : Int), ((x : Nat) : Int)])) ((i + 1 : Nat) : Int) := by
 have hf := gok_fine hg
 have h8 := gok8 hg
 obtain ⟨hn8, h0⟩ := needs_len hf hi
 intro rest
 induction rest with
 | nil =>
  intro pre out k e ho hk
  obtain ⟨k, rfl⟩ : ∃ m, k = m + 1 := ⟨k - 1, by omega⟩
  rw [spec_UselessNeeds.l1, if_pos (by omega), if_pos (by omega), if_neg (by rw [e]; simp), nx (m := 8) (by omega) (by omega)]
  simp
 | cons y r ih =>
  intro pre out k e ho hk
  obtain ⟨k, rfl⟩ : ∃ m, k = m + 1 := ⟨k - 1, by omega⟩
  simp only [List.length_cons] at hk ho
  have hlt : pre.length < (rd_T29 g (i : Int)).f1.length := by rw [e]; simp
  have hy0 := h0 y (by rw [e]; simp)
  have hrd : rd (rd_T29 g (i : Int)).f1 (pre.length : Int) = ((y.toNat : Nat) : Int) := by rw [e, rd_app]; omega
  rw [spec_UselessNeeds.l1, if_pos (by omega), if_pos (by omega), if_pos (by omega), if_pos (by omega), hrd, isUseless_eq hg hi k (by omega)]
  simp only [Option.bind_some]
  rw [List.map_cons, List.filter_cons, show k + 1 - ((y :: r).length + 1) = k - (r.length + 1) by simp only [List.length_cons]; omega, nx (m := 8) (by omega) (by omega)]
  by_cases c : usel g i y.toNat = true
  ·rw [if_pos c, if_pos (by omega), if_pos c]
   have hih := ih (pre ++ [y]) (out ++ [[((i : Nat) : Int), ((y.toNat : Nat) : Int)]]) k (by rw [e]; simp) (by simp; omega) (by omega)
   rw [List.length_append, List.length_singleton] at hih
   rw [hih, List.map_cons, List.append_assoc]
   rfl
  ·rw [if_neg c, if_neg c]
   have hih := ih (pre ++ [y]) out k (by rw [e]; simp) (by omega) (by omega)
   rw [List.length_append, List.length_singleton] at hih
   exact hih
theorem useless_l0 {g : List S29} (hg : gok g = true) : ∀ (d i k : Nat), i + d = g.length → d * 20 + 760 ≤ k →
  spec_UselessNeeds.l0 k g (uselTo (ndm g) (bel g) i) (i : Int) = some (uselTo (ndm g) (bel g) g.length) := by
 have h8 := gok8 hg
 intro d
 induction d with
 | zero =>
  intro i k hi hk
  obtain ⟨k, rfl⟩ : ∃ m, k = m + 1 := ⟨k - 1, by omega⟩
  rw [spec_UselessNeeds.l0, if_neg (by omega), show i = g.length by omega]
 | succ d ih =>
  intro i k hi hk
  obtain ⟨k, rfl⟩ : ∃ m, k = m + 1 := ⟨k - 1, by omega⟩
  have hin : i < g.length := by omega
  have hn := (needs_len (gok_fine hg) hin).1
  have hul := uselTo_len (ndm g) (bel g) i
  have h1 := useless_l1 hg hin (rd_T29 g (i : Int)).f1 [] (uselTo (ndm g) (bel g) i) k rfl (by omega) (by omega)
  rw [show ((([] : List Int).length : Nat) : Int) = 0 from rfl] at h1
  rw [spec_UselessNeeds.l0, if_pos (by omega), h1]
  have hE : uselTo (ndm g) (bel g) i ++ (((rd_T29 g (i : Int)).f1.map Int.toNat).filter (usel g i)).map (fun (x : Nat) => [((i : Nat) : Int), ((x : Nat) : Int)]) = uselTo (ndm g) (bel g) (i + 1) := by
   rw [uselTo_succ, usel_elems hg hin]
   rfl
  rw [hE]
  exact ih (i + 1) _ (by omega) (by omega)
theorem specUseless_eq {g : List S29} {B : Nat} (hB : B ≤ 4611686018427387904) (hs : Small B g) (k : Nat) (hk : 2 * B + 1000 < k) : spec_UselessNeeds.f k g = impl_UselessNeeds.f g := by
 unfold spec_UselessNeeds.f impl_UselessNeeds.f
 rw [validGraph_eq hB hs k (by omega)]
 simp only [Option.bind_some]
 by_cases c : gok g = true
 ·have h8 := gok8 c
  rw [if_pos c, if_pos c]
  exact useless_l0 c g.length 0 k (by omega) (by omega)
 ·rw [if_neg c, if_neg c]
/-- Who is needed comes a stage lower. -/
theorem stg_reach {g : List S29} (hg : gok g = true) {j x : Nat} (h : C.Reach (nds g) j x) : j < g.length → (stg g).getD x 0 < (stg g).getD j 0 := by
 induction h with
 | base hk =>
  intro hj
  have := (stg_top hg hj).ge _ hk
  omega
 | step hk _ ih =>
  intro hj
  have h1 := (stg_top hg hj).ge _ hk
  have h2 := ih (nds_lt (gok_fine hg) hj hk)
  omega
end Go.Proofs.YtbodhggmhbiebaaDoor.G
