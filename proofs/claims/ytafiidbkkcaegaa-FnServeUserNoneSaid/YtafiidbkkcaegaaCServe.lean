/-
  Plain lists: a line that is right (a heap that holds just those who wait), through a push, a pop and a fix.
-/
import Derived.Test.YtafiidbkkcaegaaCUser
namespace Go.Proofs.Ytafiidbkkcaegaa.C

/-- A line that is right: a heap by lt; it holds just those who wait, each once. -/
structure Right (lt : Nat → Nat → Bool) (S : Nat → Prop) (l : List Nat) : Prop where
  heap : Heap lt l l.length
  nodup : l.Nodup
  mem : ∀ x, x ∈ l ↔ S x

theorem nodup_le {l : List Nat} {n : Nat} (hn : l.Nodup) (h : ∀ i, i ∈ l → i < n) : l.length ≤ n := by
  have := hn.length_le_of_subset (l₂ := List.range n) (fun i hi => List.mem_range.2 (h i hi))
  simpa using this
theorem Right.nil {lt : Nat → Nat → Bool} {S : Nat → Prop} (h : ∀ x, ¬ S x) : Right lt S [] :=
  ⟨fun k _ hk => absurd hk (Nat.not_lt_zero _), List.nodup_nil, fun x => ⟨fun hx => by simp at hx, fun hx => absurd hx (h x)⟩⟩
theorem at_append {l : List Nat} {x : Nat} {k : Nat} (h : k < l.length) : at_ (l ++ [x]) k = at_ l k := by
  unfold at_
  rw [List.getD_eq_getElem?_getD, List.getElem?_append_left h, List.getD_eq_getElem?_getD]
theorem at_take {l : List Nat} {n k : Nat} (h : k < n) : at_ (l.take n) k = at_ l k := by
  unfold at_
  rw [List.getD_eq_getElem?_getD, List.getElem?_take, if_pos h, List.getD_eq_getElem?_getD]
theorem take_last {l : List Nat} {n : Nat} (h : l.length = n + 1) : l = l.take n ++ [at_ l n] := by
  have h1 : l.take (n + 1) = l := List.take_of_length_le (by omega)
  have h2 : l.take (n + 1) = l.take n ++ [l[n]'(by omega)] := List.take_succ_eq_append_getElem (by omega)
  have h3 : at_ l n = l[n]'(by omega) := by
    unfold at_
    rw [List.getD_eq_getElem?_getD, List.getElem?_eq_getElem (by omega)]
    rfl
  rw [h3, ← h2, h1]
theorem Right.push {lt : Nat → Nat → Bool} {S S' : Nat → Prop} {l : List Nat} {x : Nat} (ht : StrictTotal lt S') (h : Right lt S l) (hx : ¬ S x) (hS : ∀ y, S' y ↔ S y ∨ y = x) :
    Right lt S' (upL lt l.length (l ++ [x]) l.length) := by
  have hm : ∀ y, y ∈ l ++ [x] ↔ S' y := fun y => by rw [List.mem_append, List.mem_singleton, h.mem, hS]
  have hl : (l ++ [x]).length = l.length + 1 := by simp
  obtain ⟨h1, h2⟩ := upL_heap ht l.length (l ++ [x]) l.length (fun y hy => (hm y).1 hy) (by omega) (Nat.le_refl _)
    (fun k hk hkn hne => by
      have hp : par k < k := by unfold par; omega
      rw [at_append (by omega), at_append (by omega)]
      exact h.heap k hk (by omega))
    (fun k hk hkn hp h0 => by
      have : par k < k := by unfold par; omega
      omega)
  have hlen := h2.length_eq
  refine ⟨by rw [hlen]; exact h1, h2.nodup_iff.2 ?_, fun y => (h2.mem_iff).trans (hm y)⟩
  refine List.nodup_append.2 ⟨h.nodup, by simp, fun a ha b hb e => ?_⟩
  rw [List.mem_singleton] at hb
  rw [e, hb] at ha
  exact hx ((h.mem x).1 ha)
theorem at_ne {l : List Nat} (h : l.Nodup) {i j : Nat} (hi : i < l.length) (hj : j < l.length) (e : i ≠ j) : at_ l i ≠ at_ l j := by
  unfold at_
  rw [List.getD_eq_getElem?_getD, List.getElem?_eq_getElem hi, List.getD_eq_getElem?_getD, List.getElem?_eq_getElem hj]
  simp only [Option.getD_some]
  intro h1
  rcases Nat.lt_or_gt_of_ne e with h2 | h2
  · exact List.pairwise_iff_getElem.1 h i j hi hj h2 h1
  · exact List.pairwise_iff_getElem.1 h j i hj hi h2 h1.symm
/-- The first one's key has turned: a heap but for the root. -/
theorem Right.fix {lt lt' : Nat → Nat → Bool} {S : Nat → Prop} {l : List Nat} (ht : StrictTotal lt' S) (h : Right lt S l) (ha : ∀ x y, x ≠ at_ l 0 → y ≠ at_ l 0 → lt' x y = lt x y) :
    Right lt' S (downL lt' l.length l 0 l.length) := by
  obtain ⟨h1, h2, _⟩ := downL_heap ht l.length l.length l 0 (fun y hy => (h.mem y).1 hy) (Nat.le_refl _) (by omega)
    (fun k hk hkn hp => by
      have hpl : par k < l.length := by unfold par; omega
      rw [ha _ _ (at_ne h.nodup hkn (by omega) (by omega)) (at_ne h.nodup hpl (by omega) hp)]
      exact h.heap k hk hkn)
    (fun k hk hkn hp h0 => absurd h0 (Nat.lt_irrefl _))
  exact ⟨by rw [h2.length_eq]; exact h1, h2.nodup_iff.2 h.nodup, fun y => h2.mem_iff.trans (h.mem y)⟩
/-- The first one goes. -/
theorem Right.pop {lt lt' : Nat → Nat → Bool} {S S' : Nat → Prop} {l : List Nat} {n : Nat} (hn : l.length = n + 1) (ht : StrictTotal lt' S) (h : Right lt S l) (ha : ∀ x y, x ≠ at_ l 0 → y ≠ at_ l 0 → lt' x y = lt x y)
    (hS : ∀ y, S' y ↔ S y ∧ y ≠ at_ l 0) : Right lt' S' ((downL lt' n (swapL l 0 n) 0 n).take n) := by
  have hp := swapL_perm l 0 n (by omega) (by omega)
  have hsl := swapL_length l 0 n
  obtain ⟨h1, h2, h3⟩ := downL_heap ht n n (swapL l 0 n) 0 (fun y hy => (h.mem y).1 (hp.mem_iff.1 hy)) (by omega) (by omega)
    (fun k hk hkn hp0 => by
      have hpl : par k < n := by unfold par; omega
      rw [at_swap _ _ _ _ (by omega) (by omega), if_neg (by omega), if_neg (by omega), at_swap _ _ _ _ (by omega) (by omega), if_neg (by omega), if_neg hp0,
        ha _ _ (at_ne h.nodup (by omega) (by omega) (by omega)) (at_ne h.nodup (by omega) (by omega) hp0)]
      exact h.heap k hk (by omega))
    (fun k hk hkn hp0 h0 => absurd h0 (Nat.lt_irrefl _))
  have hl : (downL lt' n (swapL l 0 n) 0 n).length = n + 1 := by rw [h2.length_eq, hsl, hn]
  have hlast : at_ (downL lt' n (swapL l 0 n) 0 n) n = at_ l 0 := by
    rw [h3 n (Nat.le_refl _), at_swap _ _ _ _ (by omega) (by omega), if_pos rfl]
  have hsplit := take_last hl
  rw [hlast] at hsplit
  have hperm := h2.trans hp
  generalize downL lt' n (swapL l 0 n) 0 n = d at *
  have hnd := hperm.nodup_iff.2 h.nodup
  rw [hsplit] at hnd
  obtain ⟨hn1, _, hn2⟩ := List.nodup_append.1 hnd
  have htl : (d.take n).length = n := by rw [List.length_take]; omega
  refine ⟨fun k hk hkn => ?_, hn1, fun y => ?_⟩
  · rw [htl] at hkn
    rw [at_take hkn, at_take (by unfold par; omega)]
    exact h1 k hk hkn
  · rw [hS, ← h.mem, ← hperm.mem_iff]
    constructor
    · intro hy
      exact ⟨List.mem_of_mem_take hy, fun e => hn2 y hy (at_ l 0) (by simp) e⟩
    · rintro ⟨hy, hne⟩
      rw [hsplit, List.mem_append, List.mem_singleton] at hy
      exact hy.resolve_right hne
/-- Who stands first of a right line is the one who comes next. -/
theorem Right.next {u s w : Nat → Int} {m : Nat} {l : List Nat} (hs : ∀ i, 0 < w i → 0 < s i) (h : Right (ltK u s) (fun i => i < m ∧ 0 < w i) l) (hl : 0 < l.length) : nextGo u s w m = some (at_ l 0) := by
  have ht : StrictTotal (ltK u s) (fun i => i < m ∧ 0 < w i) := ltK_strict u s (fun a ha => hs a ha.2)
  have hS : ∀ x, x ∈ l → x < m ∧ 0 < w x := fun x hx => (h.mem x).1 hx
  have h0 := hS _ (mem_of_at hl)
  refine nextGo_unique hs h0.1 h0.2 (fun i hi hwi => ?_)
  obtain ⟨k, hk, rfl⟩ := List.mem_iff_getElem.1 ((h.mem i).2 ⟨hi, hwi⟩)
  have hr := Heap.root ht h.heap (Nat.le_refl _) hS k hk
  have e : at_ l k = l[k] := by
    unfold at_
    rw [List.getD_eq_getElem?_getD, List.getElem?_eq_getElem hk]
    rfl
  rwa [e] at hr
theorem Right.next_none {u s w : Nat → Int} {m : Nat} {l : List Nat} (h : Right (ltK u s) (fun i => i < m ∧ 0 < w i) l) (hl : l.length = 0) : nextGo u s w m = none := by
  rw [nextGo_none]
  intro i hi hw
  have := (h.mem i).2 ⟨hi, hw⟩
  rw [List.eq_nil_of_length_eq_zero hl] at this
  simp at this
end Go.Proofs.Ytafiidbkkcaegaa.C
