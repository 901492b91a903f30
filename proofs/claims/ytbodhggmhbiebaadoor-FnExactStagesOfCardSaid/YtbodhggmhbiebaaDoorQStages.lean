/-
 StagesOf: what its parts are; the reference answers what the program answers.
-/
import Derived.Test.YtbodhggmhbiebaaDoorHStages
import Derived.Test.YtbodhggmhbiebaaDoorQStage
import Derived.Test.YtbodhggmhbiebaaDoorG0
import Derived.Test.YtbodhggmhbiebaaDoorG7
namespace Go.Proofs.YtbodhggmhbiebaaDoor.G
open Go.RowKit Go.Proofs.YtbodhggmhbiebaaDoorW.PrintWords Go.Proofs.YtbodhggmhbiebaaDoorW.PrintLast Go.Proofs.YtbodhggmhbiebaaDoorW.PrintMore C
set_option linter.unusedVariables false
set_option linter.unusedSimpArgs false

/-- The tasks below q of stage s. -/
def partS (st : List Int) (q s : Nat) : List Nat := (List.range q).filter (fun i => decide (st.getD i 0 = (s : Int)))
theorem partS_succ (st : List Int) (q s : Nat) : partS st (q + 1) s = partS st q s ++ (if st.getD q 0 = (s : Int) then [q] else []) := by
 unfold partS
 rw [List.range_succ, List.filter_append]
 by_cases c : st.getD q 0 = (s : Int)
 ·rw [if_pos c]
  have : decide (st.getD q 0 = (s : Int)) = true := decide_eq_true c
  simp only [List.filter_cons, this, List.filter_nil]
  rfl
 ·rw [if_neg c]
  have : decide (st.getD q 0 = (s : Int)) = false := decide_eq_false c
  simp only [List.filter_cons, this, List.filter_nil]
  simp
theorem partS_mem {st : List Int} {q s i : Nat} : i ∈ partS st q s ↔ i < q ∧ st.getD i 0 = (s : Int) := by
 unfold partS
 rw [List.mem_filter, List.mem_range, decide_eq_true_eq]
theorem partS_sorted (st : List Int) (q s : Nat) : (partS st q s).Pairwise (· < ·) := List.Pairwise.filter _ List.pairwise_lt_range
theorem partS_len (st : List Int) (q s : Nat) : (partS st q s).length ≤ q := by
 have := List.length_filter_le (fun i => decide (st.getD i 0 = (s : Int))) (List.range q)
 rw [List.length_range] at this
 exact this
theorem padS_getD (out : List (List Int)) (s t : Nat) : (padS out s).getD t [] = out.getD t [] := by
 unfold padS
 rw [List.getD_eq_getElem?_getD, List.getD_eq_getElem?_getD]
 by_cases c : t < out.length
 ·rw [List.getElem?_append_left c]
 ·rw [List.getElem?_append_right (by omega), List.getElem?_eq_none (l := out) (by omega), List.getElem?_replicate]
  split <;> rfl
theorem stgsTo_getD {st : List Int} : ∀ (q : Nat), (∀ i, i < q → 0 ≤ st.getD i 0) → ∀ s, (stgsTo st q).getD s [] = castL (partS st q s)
 | 0, _, s => by simp [stgsTo, partS, castL]
 | q + 1, h, s => by
  have hq := h q (by omega)
  have ih := stgsTo_getD q (fun i hi => h i (by omega))
  rw [stgsTo_succ, partS_succ]
  unfold stgsStep
  obtain ⟨sq, hsq⟩ : ∃ sq : Nat, st.getD q 0 = (sq : Int) := ⟨(st.getD q 0).toNat, by omega⟩
  rw [hsq, Int.toNat_natCast]
  have hpl := padS_len (stgsTo st q) sq
  rw [List.getD_eq_getElem?_getD, List.getElem?_set]
  by_cases e : sq = s
  ·subst e
   rw [if_pos rfl, if_pos (by omega), if_pos rfl, padS_getD, ih]
   simp [castL]
  ·rw [if_neg e, ← List.getD_eq_getElem?_getD, padS_getD, ih, if_neg (by omega)]
   simp
theorem stgsTo_len {st : List Int} : ∀ (q : Nat), (∀ i, i < q → 0 ≤ st.getD i 0) → ∀ s, s < (stgsTo st q).length ↔ ∃ i, i < q ∧ (s : Int) ≤ st.getD i 0
 | 0, _, s => by
  simp only [stgsTo, List.range_zero, List.foldl_nil, List.length_nil]
  constructor
  ·intro h; omega
  ·rintro ⟨i, hi, _⟩; omega
 | q + 1, h, s => by
  have hq := h q (by omega)
  have ih := stgsTo_len q (fun i hi => h i (by omega)) s
  rw [stgsTo_succ]
  unfold stgsStep
  rw [List.length_set, padS_len]
  constructor
  ·intro hs
   by_cases c : s < (stgsTo st q).length
   ·obtain ⟨i, hi, h2⟩ := ih.1 c
    exact ⟨i, by omega, h2⟩
   ·exact ⟨q, by omega, by omega⟩
  ·rintro ⟨i, hi, h2⟩
   by_cases c : i = q
   ·subst c
    omega
   ·have := ih.2 ⟨i, by omega, h2⟩
    omega
/-- Each stage up to the highest has a task. -/
theorem stg_down {g : List S29} (hg : gok g = true) : ∀ (d i : Nat), i < g.length → ∀ s : Nat, (stg g).getD i 0 = ((s + d : Nat) : Int) → ∃ k, k < g.length ∧ (stg g).getD k 0 = (s : Int)
 | 0, i, hi, s, h => ⟨i, hi, h⟩
 | d + 1, i, hi, s, h => by
  have ht := stg_top hg hi
  rcases ht.from_ with h2 | ⟨k, hk, h2⟩
  ·omega
  ·exact stg_down hg d k (nds_lt (gok_fine hg) hi hk) s (by omega)
theorem part_some {g : List S29} (hg : gok g = true) {s : Nat} (hs : s < (stgsTo (stg g) g.length).length) : partS (stg g) g.length s ≠ [] := by
 obtain ⟨i, hi, h⟩ := (stgsTo_len g.length (fun i hi => (stg_lt hg hi).1) s).1 hs
 have hb := stg_lt hg hi
 obtain ⟨k, hk, h2⟩ := stg_down hg ((stg g).getD i 0 - (s : Int)).toNat i hi s (by omega)
 intro e
 have := partS_mem.2 ⟨hk, h2⟩
 rw [e] at this
 cases this
theorem part_none {g : List S29} (hg : gok g = true) {s : Nat} (hs : ¬ s < (stgsTo (stg g) g.length).length) : partS (stg g) g.length s = [] := by
 apply List.eq_nil_iff_forall_not_mem.2
 intro i hi
 obtain ⟨h1, h2⟩ := partS_mem.1 hi
 exact hs ((stgsTo_len g.length (fun i hi => (stg_lt hg hi).1) s).2 ⟨i, h1, by omega⟩)
/-- The parts, one by one. -/
theorem stgs_take {g : List S29} (hg : gok g = true) {s : Nat} (hs : s < (stgsTo (stg g) g.length).length) : (stgsTo (stg g) g.length).take (s + 1) = (stgsTo (stg g) g.length).take s ++ [castL (partS (stg g) g.length s)] := by
 have h := stgsTo_getD g.length (fun i hi => (stg_lt hg hi).1) s
 rw [List.take_succ_eq_append_getElem hs]
 rw [List.getD_eq_getElem?_getD, List.getElem?_eq_getElem hs] at h
 rw [← h]
 rfl
theorem sstages_l1 {g : List S29} (hg : gok g = true) (out : List (List Int)) (s : Nat) : ∀ (d i k : Nat), i + d = g.length → d + 2 ≤ k →
  spec_StagesOf.l1 k g out (stg g) (s : Int) (castL (partS (stg g) i s)) (i : Int) = spec_StagesOf.l1 (k - d) g out (stg g) (s : Int) (castL (partS (stg g) g.length s)) (g.length : Int) := by
 have h8 := gok8 hg
 have hl := stg_len g
 intro d
 induction d with
 | zero =>
  intro i k hi hk
  rw [show i = g.length by omega, Nat.sub_zero]
 | succ d ih =>
  intro i k hi hk
  obtain ⟨k, rfl⟩ : ∃ m, k = m + 1 := ⟨k - 1, by omega⟩
  have hpl := partS_len (stg g) i s
  have hih := ih (i + 1) k (by omega) (by omega)
  rw [partS_succ] at hih
  rw [spec_StagesOf.l1, if_pos (by omega), if_pos (by omega), if_pos (by omega), rd_nat, nx (m := 8) (by omega) (by omega), show k + 1 - (d + 1) = k - d by omega]
  by_cases c : (stg g).getD i 0 = (s : Int)
  ·rw [if_pos c, if_pos (by rw [castL_length]; omega)]
   rw [if_pos c] at hih
   rw [← hih]
   congr 1
   simp [castL]
  ·rw [if_neg c]
   rw [if_neg c, List.append_nil] at hih
   exact hih
theorem sstages_l0 {g : List S29} (hg : gok g = true) : ∀ (d s k : Nat), s + d = g.length → d * 20 + 20 ≤ k →
  spec_StagesOf.l0 k g ((stgsTo (stg g) g.length).take s) (stg g) (s : Int) = some (stgsTo (stg g) g.length) := by
 have h8 := gok8 hg
 have hbd := stgsTo_bd (st := stg g) (n := g.length) (fun i hi => stg_lt hg hi) g.length (Nat.le_refl _)
 intro d
 induction d with
 | zero =>
  intro s k hi hk
  obtain ⟨k, rfl⟩ : ∃ m, k = m + 1 := ⟨k - 1, by omega⟩
  rw [spec_StagesOf.l0, if_neg (by omega), List.take_of_length_le (by omega)]
 | succ d ih =>
  intro s k hi hk
  obtain ⟨k, rfl⟩ : ∃ m, k = m + 1 := ⟨k - 1, by omega⟩
  have h1 := sstages_l1 hg ((stgsTo (stg g) g.length).take s) s g.length 0 k (by omega) (by omega)
  rw [show castL (partS (stg g) 0 s) = [] from rfl, show ((0 : Nat) : Int) = 0 from rfl] at h1
  rw [spec_StagesOf.l0, if_pos (by omega), h1]
  obtain ⟨q, hq⟩ : ∃ q, k - g.length = q + 1 := ⟨k - g.length - 1, by omega⟩
  rw [hq, spec_StagesOf.l1, if_neg (by omega), nx (m := 8) (by omega) (by omega)]
  have hih := ih (s + 1) q (by omega) (by omega)
  by_cases c : s < (stgsTo (stg g) g.length).length
  ·have hne := part_some hg c
   have hpos : 0 < (partS (stg g) g.length s).length := List.length_pos_iff.2 hne
   rw [if_pos (by rw [castL_length]; omega), if_pos (by rw [List.length_take]; omega), ← stgs_take hg c]
   exact hih
  ·rw [part_none hg c, if_neg (by simp [castL])]
   rw [List.take_of_length_le (by omega)] at hih ⊢
   exact hih
theorem specStages_eq {g : List S29} {B : Nat} (hB : B ≤ 4611686018427387904) (hs : Small B g) (k : Nat) (hk : 2 * B + 600 < k) : spec_StagesOf.f k g = impl_StagesOf.f g := by
 unfold spec_StagesOf.f impl_StagesOf.f
 rw [validGraph_eq hB hs k (by omega)]
 simp only [Option.bind_some]
 by_cases c : gok g = true
 ·have h8 := gok8 c
  rw [if_pos c, if_pos c, levels_eq c k (by omega)]
  simp only [Option.bind_some]
  have h := sstages_l0 c g.length 0 k (by omega) (by omega)
  rw [List.take_zero] at h
  exact h
 ·rw [if_neg c, if_neg c]
end Go.Proofs.YtbodhggmhbiebaaDoor.G
