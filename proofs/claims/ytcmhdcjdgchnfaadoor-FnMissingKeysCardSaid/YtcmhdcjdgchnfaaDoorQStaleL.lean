/-
 Stale tasks: laws on sets of tasks and their times; the laws' own helpers.
-/
import Derived.Test.YtcmhdcjdgchnfaaDoorQStale
import Derived.Test.YtcmhdcjdgchnfaaDoorQEqualInts
import Derived.Test.YtcmhdcjdgchnfaaDoorQAny
import Derived.Test.YtcmhdcjdgchnfaaDoorG0
import Derived.Test.YtcmhdcjdgchnfaaDoorG10
import Derived.Test.YtcmhdcjdgchnfaaDoorG8
namespace Go.Proofs.YtcmhdcjdgchnfaaDoor.G
open Go.RowKit Go.Proofs.YtcmhdcjdgchnfaaDoorW.PrintWords Go.Proofs.YtcmhdcjdgchnfaaDoorW.PrintLast Go.Proofs.YtcmhdcjdgchnfaaDoorW.PrintMore C
set_option linter.unusedVariables false
set_option linter.unusedSimpArgs false

theorem lIsIn_go {l : List Int} (hl : l.length ≤ 4611686018427387904) (a : Int) : ∀ (rest pre : List Int) (k : Nat), l = pre ++ rest → rest.length < k → laws_isIn.l0 k l a (pre.length : Int) = some (rest.contains a) := by
 intro rest
 induction rest with
 | nil =>
  intro pre k e hk
  obtain ⟨k, rfl⟩ : ∃ m, k = m + 1 := ⟨k - 1, by omega⟩
  rw [laws_isIn.l0, if_neg (by rw [e]; simp)]
  rfl
 | cons x r ih =>
  intro pre k e hk
  obtain ⟨k, rfl⟩ : ∃ m, k = m + 1 := ⟨k - 1, by omega⟩
  simp only [List.length_cons] at hk
  have hlt : pre.length < l.length := by rw [e]; simp
  rw [laws_isIn.l0, if_pos (by omega), if_pos (by omega), show rd l (pre.length : Int) = x by rw [e]; exact rd_app _ _ _, nx hl hlt, show pre.length + 1 = (pre ++ [x]).length by simp, ih (pre ++ [x]) k (by rw [e]; simp) (by omega)]
  by_cases c : x = a
  ·rw [if_pos c]
   simp [c]
  ·rw [if_neg c]
   have c' : ¬ a = x := fun h => c h.symm
   simp [List.contains_cons, c']
theorem lIsIn_eq {l : List Int} (hl : l.length ≤ 4611686018427387904) (a : Int) (k : Nat) (hk : l.length < k) : laws_isIn.f k l a = some (l.contains a) := lIsIn_go hl a l [] k rfl hk
theorem sm_small {n m : Nat} {l : List S69} (h : Sm n m l) (hn : n ≤ 100) (hm : m ≤ 100) : Small 100 l := ⟨Nat.le_trans h.len hn, fun t ht => Nat.le_trans (h.nd t ht) hm⟩
theorem ascB_weak {n : Nat} {l : List Int} {a b : Int} (h : ascB n a l = true) (hab : b ≤ a) : ascB n b l = true := by
 cases l with
 | nil => rfl
 | cons x r =>
  simp only [ascB, Bool.and_eq_true, decide_eq_true_eq] at h ⊢
  exact ⟨⟨by omega, h.1.2⟩, h.2⟩
theorem ascB_castL {n : Nat} : ∀ (L : List Nat) (a : Int), L.Pairwise (· < ·) → (∀ i, i ∈ L → i < n ∧ a < (i : Int)) → ascB n a (castL L) = true
 | [], _, _, _ => rfl
 | x :: r, a, hp, h => by
  obtain ⟨h1, h2⟩ := List.pairwise_cons.1 hp
  have hx := h x (by simp)
  show ascB n a ((x : Int) :: castL r) = true
  simp only [ascB, Bool.and_eq_true, decide_eq_true_eq]
  exact ⟨by omega, ascB_castL r _ h2 (fun i hi => ⟨(h i (by simp [hi])).1, by have := h1 i hi; omega⟩)⟩
theorem castL_contains (L : List Nat) (i : Nat) : (castL L).contains (i : Int) = L.contains i := by
 rw [toNat_contains (by omega), Int.toNat_natCast]
section
variable {l0 : List S69} {l1 : List Int}
theorem sok_mk (hg : gok l0 = true) (ha : ascB l0.length (-1) l1 = true) : sok l0 l1 = true := by
 unfold sok
 rw [hg, ha]
 rfl
theorem time_nn (hg : gok l0 = true) (i : Nat) : 0 ≤ (rd_T69 l0 (i : Int)).f0 := by
 by_cases hi : i < l0.length
 ·have := fine_time (gok_fine hg) hi
  omega
 ·unfold rd_T69
  rw [List.getD_eq_getElem?_getD, List.getElem?_eq_none (by simp; omega)]
  decide
theorem tsum_from (l : List Nat) (a : Int) : l.foldl (fun (s : Int) (i : Nat) => s + (rd_T69 l0 (i : Int)).f0) a = a + tsum l0 l := by
 induction l generalizing a with
 | nil => simp [tsum]
 | cons x r ih =>
  unfold tsum
  rw [List.foldl_cons, List.foldl_cons, ih, ih]
  omega
theorem tsum_cons (x : Nat) (r : List Nat) : tsum l0 (x :: r) = (rd_T69 l0 (x : Int)).f0 + tsum l0 r := by
 show List.foldl _ _ (x :: r) = _
 rw [List.foldl_cons, tsum_from]
 omega
theorem tsum_add (hg : gok l0 = true) {p q r : Nat → Bool} : ∀ L : List Nat, (∀ i, i ∈ L → p i = true → q i = true ∨ r i = true) → tsum l0 (L.filter p) ≤ tsum l0 (L.filter q) + tsum l0 (L.filter r)
 | [], _ => by simp [tsum]
 | x :: L, h => by
  have ih := tsum_add hg L (fun i hi => h i (by simp [hi]))
  have ht := time_nn hg x
  have hx := h x (by simp)
  cases hp : p x <;> cases hq : q x <;> cases hr : r x <;> simp only [List.filter_cons, hp, hq, hr, if_true, if_false, Bool.false_eq_true, tsum_cons] <;> first | omega | (exfalso; rw [hp, hq, hr] at hx; simp at hx)
theorem tsum_le (hg : gok l0 = true) {p q : Nat → Bool} (L : List Nat) (h : ∀ i, i ∈ L → p i = true → q i = true) : tsum l0 (L.filter p) ≤ tsum l0 (L.filter q) := by
 have := tsum_add hg (p := p) (q := q) (r := fun _ => false) L (fun i hi hp => .inl (h i hi hp))
 have e : L.filter (fun _ => false) = [] := by simp
 rw [e] at this
 simpa [tsum] using this
theorem elems_sub {a b : Nat} (hg : gok l0 = true) (h : ∀ i, a.testBit i = true → b.testBit i = true) : tsum l0 (elems a) ≤ tsum l0 (elems b) := tsum_le hg _ (fun i _ hi => h i hi)
theorem elems_sum {a b c : Nat} (hg : gok l0 = true) (h : ∀ i, a.testBit i = true → b.testBit i = true ∨ c.testBit i = true) : tsum l0 (elems a) ≤ tsum l0 (elems b) + tsum l0 (elems c) := tsum_add hg _ (fun i _ hi => h i hi)
theorem tsum_bd (hg : gok l0 = true) : ∀ L : List Nat, 0 ≤ tsum l0 L ∧ tsum l0 L ≤ 20 * (L.length : Int)
 | [] => by simp [tsum]
 | x :: r => by
  have ih := tsum_bd hg r
  have ht := time_nn hg x
  have h20 : (rd_T69 l0 (x : Int)).f0 ≤ 20 := by
   by_cases hi : x < l0.length
   ·exact (fine_time (gok_fine hg) hi).2
   ·unfold rd_T69
    rw [List.getD_eq_getElem?_getD, List.getElem?_eq_none (by simp; omega)]
    decide
  rw [tsum_cons, List.length_cons]
  omega
theorem stN_mem (h : sok l0 l1 = true) {i : Nat} : i ∈ elems (stN l0 l1) ↔ i < l0.length ∧ Stale l0 l1 i := by
 have hb := stN_bits h
 rw [mem_elems hb.lt]
 exact hb.iff i
theorem stN_bit (h : sok l0 l1 = true) {i : Nat} : (stN l0 l1).testBit i = true ↔ i < l0.length ∧ Stale l0 l1 i := (stN_bits h).iff i
theorem sok_take (h : sok l0 l1 = true) : sok l0 (l1.take 1) = true := by
 obtain ⟨hg, ha⟩ := sok_parts h
 refine sok_mk hg ?_
 cases l1 with
 | nil => rfl
 | cons x r =>
  simp only [ascB, Bool.and_eq_true, decide_eq_true_eq] at ha
  show ascB l0.length (-1) [x] = true
  simp only [ascB, Bool.and_eq_true, decide_eq_true_eq, and_true]
  exact ha.1
theorem sok_drop (h : sok l0 l1 = true) : sok l0 (l1.drop 1) = true := by
 obtain ⟨hg, ha⟩ := sok_parts h
 refine sok_mk hg ?_
 cases l1 with
 | nil => rfl
 | cons x r =>
  simp only [ascB, Bool.and_eq_true, decide_eq_true_eq] at ha
  exact ascB_weak ha.2 (by omega)
theorem Stale.mono {l1 l2 : List Int} {i : Nat} (h : Stale l0 l1 i) (hs : ∀ x, x ∈ l1 → x ∈ l2) : Stale l0 l2 i := by
 rcases h with h | ⟨c, hc, hr⟩
 ·exact .inl (hs _ h)
 ·exact .inr ⟨c, hs _ hc, hr⟩
theorem Stale.split {l1 : List Int} {i : Nat} (h : Stale l0 l1 i) : Stale l0 (l1.take 1) i ∨ Stale l0 (l1.drop 1) i := by
 have hm : ∀ x, x ∈ l1 → x ∈ l1.take 1 ∨ x ∈ l1.drop 1 := by
  intro x hx
  have : x ∈ l1.take 1 ++ l1.drop 1 := by rw [List.take_append_drop]; exact hx
  exact List.mem_append.1 this
 rcases h with h | ⟨c, hc, hr⟩
 ·rcases hm _ h with h | h
  ·exact .inl (.inl h)
  ·exact .inr (.inl h)
 ·rcases hm _ hc with h | h
  ·exact .inl (.inr ⟨c, h, hr⟩)
  ·exact .inr (.inr ⟨c, h, hr⟩)
/-- Stale tasks of stale tasks are the same. -/
theorem sok_again (h : sok l0 l1 = true) : sok l0 (castL (elems (stN l0 l1))) = true :=
 sok_mk (sok_parts h).1 (ascB_castL _ _ (elems_sorted _) (fun i hi => ⟨((stN_mem h).1 hi).1, by omega⟩))
theorem stN_again (h : sok l0 l1 = true) : stN l0 (castL (elems (stN l0 l1))) = stN l0 l1 := by
 have h2 := sok_again h
 refine (stN_bits h2).ext ((stN_bits h).congr (fun i => ?_))
 refine and_congr_right (fun hi => ?_)
 have hm : ∀ c : Nat, ((c : Int) ∈ castL (elems (stN l0 l1))) ↔ c < l0.length ∧ Stale l0 l1 c := by
  intro c
  rw [← stN_mem h]
  unfold castL
  rw [List.mem_map]
  constructor
  ·rintro ⟨a, ha, e⟩
   have : a = c := by omega
   exact this ▸ ha
  ·intro hc
   exact ⟨c, hc, rfl⟩
 constructor
 ·intro hs
  exact .inl ((hm i).2 ⟨hi, hs⟩)
 ·rintro (hs | ⟨c, hc, hr⟩)
  ·exact ((hm i).1 hs).2
  ·rcases ((hm c).1 hc).2 with hs | ⟨d, hd, hr'⟩
   ·exact .inr ⟨c, hs, hr⟩
   ·exact .inr ⟨d, hd, hr.trans hr'⟩
theorem stN_nil (hg : gok l0 = true) : elems (stN l0 []) = [] := by
 have h : sok l0 [] = true := sok_mk hg rfl
 have : ∀ i, i ∉ elems (stN l0 []) := by
  intro i hi
  rcases ((stN_mem h).1 hi).2 with h | ⟨c, hc, _⟩
  ·cases h
  ·cases hc
 exact List.eq_nil_iff_forall_not_mem.2 this
theorem specStaleTasks_eq {B : Nat} (hB : B ≤ 4611686018427387904) (hs : Small B l0) (hl : l1.length ≤ B) (k : Nat) (hk : 2 * B + 700 < k) : spec_StaleTasks.f k l0 l1 = impl_StaleTasks.f l0 l1 := by
 unfold spec_StaleTasks.f impl_StaleTasks.f
 rw [validFails_eq hB hs hl k (by omega)]
 simp only [Option.bind_some]
 by_cases c : sok l0 l1 = true
 ·rw [if_pos c, if_pos c, stale_eq c k (by omega)]
  rfl
 ·rw [if_neg c, if_neg c]
end
end Go.Proofs.YtcmhdcjdgchnfaaDoor.G
