/-
 Outcomes: laws on them, in plain lists.
-/
import Derived.Test.YtgdoajmgheokbaaDoorQOut
import Derived.Test.YtgdoajmgheokbaaDoorG0
import Derived.Test.YtgdoajmgheokbaaDoorG11
import Derived.Test.YtgdoajmgheokbaaDoorG2
import Derived.Test.YtgdoajmgheokbaaDoorG4
import Derived.Test.YtgdoajmgheokbaaDoorG8
namespace Go.Proofs.YtgdoajmgheokbaaDoor.G
open Go.RowKit Go.Proofs.YtgdoajmgheokbaaDoorW.PrintWords Go.Proofs.YtgdoajmgheokbaaDoorW.PrintLast Go.Proofs.YtgdoajmgheokbaaDoorW.PrintMore C
set_option linter.unusedVariables false
set_option linter.unusedSimpArgs false

theorem cntK_zero {l : List Int} {c : Int} (h : ∀ k, k < l.length → l.getD k 0 ≠ c) : cntK l c = 0 := by
 unfold cntK
 rw [List.length_eq_zero_iff, List.filter_eq_nil_iff]
 intro x hx he
 obtain ⟨k, hk, rfl⟩ := List.getElem_of_mem hx
 refine h k hk ?_
 rw [List.getD_eq_getElem?_getD, List.getElem?_eq_getElem hk]
 simpa using he
theorem cntK_pos {l : List Int} {c : Int} {k : Nat} (hk : k < l.length) (h : l.getD k 0 = c) : 1 ≤ cntK l c := by
 unfold cntK
 refine List.length_pos_of_mem (a := c) (List.mem_filter.2 ⟨?_, by simp⟩)
 rw [← h, List.getD_eq_getElem?_getD, List.getElem?_eq_getElem hk]
 exact List.getElem_mem _
theorem cntK_four : ∀ (l : List Int), (∀ x, x ∈ l → x = 0 ∨ x = 1 ∨ x = 2 ∨ x = 3) → cntK l 0 + cntK l 1 + cntK l 2 + cntK l 3 = l.length
 | [], _ => rfl
 | a :: l, h => by
  have ih := cntK_four l (fun x hx => h x (by simp [hx]))
  have ha := h a (by simp)
  rw [cntK_cons, cntK_cons, cntK_cons, cntK_cons, List.length_cons]
  rcases ha with rfl | rfl | rfl | rfl <;> simp <;> omega
theorem cntK_sub : ∀ (a b : List Int), a.length = b.length → (∀ k, k < a.length → a.getD k 0 = 0 → b.getD k 0 = 0) → cntK a 0 ≤ cntK b 0
 | [], b, _, _ => by simp [cntK]
 | x :: a, [], h, _ => by simp at h
 | x :: a, y :: b, h, hk => by
  have ih := cntK_sub a b (by simpa using h) (fun k hk' h' => by
   have := hk (k + 1) (by simp; omega)
   simp only [List.getD_cons_succ] at this
   exact this h')
  have h0 := hk 0 (by simp)
  simp only [List.getD_cons_zero] at h0
  rw [cntK_cons, cntK_cons]
  by_cases hx : x = 0
  ·rw [if_pos hx, if_pos (h0 hx)]
   omega
  ·rw [if_neg hx]
   omega
theorem cntK_lt {l : List Int} {c : Int} {k : Nat} (hk : k < l.length) (h : l.getD k 0 ≠ c) : cntK l c < l.length := by
 have h1 := cntK_set l k c c hk
 rw [if_neg h, if_pos rfl] at h1
 have h2 := cntK_le (l.set k c) c
 rw [List.length_set] at h2
 omega
theorem lIsInO_go {l : List Int} (hl : l.length ≤ 4611686018427387904) (a : Int) : ∀ (rest pre : List Int) (k : Nat), l = pre ++ rest → rest.length < k → laws_isIn.l0 k l a (pre.length : Int) = some (rest.contains a) := by
 intro rest
 induction rest with
 | nil =>
  intro pre k e hk
  obtain ⟨k, rfl⟩ : ∃ m, k = m + 1 := ⟨k - 1, by omega⟩
  rw [laws_isIn.l0, if_neg (by rw [e]; simp)]
  rfl
 | cons x r ih =>
  intro pre k e hk
  obtain ⟨k, rfl⟩ : ∃ m, k = m + 1 := ⟨k - 1, by omega⟩
  simp only [List.length_cons] at hk
  have hlt : pre.length < l.length := by rw [e]; simp
  rw [laws_isIn.l0, if_pos (by omega), if_pos (by omega), show rd l (pre.length : Int) = x by rw [e]; exact rd_app _ _ _, nx hl hlt, show pre.length + 1 = (pre ++ [x]).length by simp, ih (pre ++ [x]) k (by rw [e]; simp) (by omega)]
  by_cases c : x = a
  ·rw [if_pos c]
   simp [c]
  ·rw [if_neg c]
   have c' : ¬ a = x := fun h => c h.symm
   simp [List.contains_cons, c']
theorem lIsInO_eq {l : List Int} (hl : l.length ≤ 4611686018427387904) (a : Int) (k : Nat) (hk : l.length < k) : laws_isIn.f k l a = some (l.contains a) := lIsInO_go hl a l [] k rfl hk
section
variable {l0 : List S74} {l1 : List Int} {kI : Int}
theorem outL_rng (hs : sok l0 l1 = true) (hk : 1 ≤ kI) : ∀ x, x ∈ outL l0 l1 kI → x = 0 ∨ x = 1 ∨ x = 2 ∨ x = 3 := by
 intro x hx
 obtain ⟨i, hi, rfl⟩ := List.getElem_of_mem hx
 have hil : i < l0.length := by rw [← outL_len (l1 := l1) (kI := kI) (sok_partsO hs).1]; exact hi
 have e : (outL l0 l1 kI)[i] = (outL l0 l1 kI).getD i 0 := by rw [List.getD_eq_getElem?_getD, List.getElem?_eq_getElem hi]; rfl
 rw [e]
 rcases outL_val hs hk hil with h | h | h | h
 ·exact .inl h.1
 ·exact .inr (.inl h.1)
 ·exact .inr (.inr (.inl h.1))
 ·exact .inr (.inr (.inr h.1))
/-- No more fail than are kept going; nothing is left if fewer fail. -/
theorem outL_keep (hs : sok l0 l1 = true) (hk : 1 ≤ kI) : (cntK (outL l0 l1 kI) 1 : Int) ≤ kI ∧ ((cntK (outL l0 l1 kI) 1 : Int) = kI ∨ cntK (outL l0 l1 kI) 3 = 0) := by
 have hi := outL_inv hs hk
 have hle := hi.le
 rw [hi.cnt] at hle
 refine ⟨hle, ?_⟩
 by_cases h : (cntK (outL l0 l1 kI) 1 : Int) = kI
 ·exact .inl h
 ·refine .inr (cntK_zero (fun k hk' he => ?_))
  rw [hi.len] at hk'
  rcases outL_val hs hk hk' with h' | h' | h' | h'
  ·rw [h'.1] at he; cases he
  ·rw [h'.1] at he; cases he
  ·rw [h'.1] at he; cases he
  ·omega
/-- Where nobody is left, a task is done exactly if it does not fail and all that it needs are done. -/
theorem outL_done (hs : sok l0 l1 = true) (hk : 1 ≤ kI) (h3 : cntK (outL l0 l1 kI) 3 = 0) {i : Nat} (hi : i < l0.length) : (outL l0 l1 kI).getD i 0 = 0 ↔ ¬ (i : Int) ∈ l1 ∧ ∀ j, j ∈ nds l0 i → (outL l0 l1 kI).getD j 0 = 0 := by
 have hlen := outL_len (l1 := l1) (kI := kI) (sok_partsO hs).1
 rcases outL_val hs hk hi with ⟨a, b, c⟩ | ⟨a, b, c⟩ | ⟨a, j, b, c⟩ | ⟨a, b⟩
 ·exact ⟨fun _ => ⟨c, b⟩, fun _ => a⟩
 ·exact ⟨fun e => absurd e (by rw [a]; decide), fun e => absurd c e.1⟩
 ·exact ⟨fun e => absurd e (by rw [a]; decide), fun e => absurd (e.2 j b) c⟩
 ·have := cntK_pos (l := outL l0 l1 kI) (c := 3) (k := i) (by omega) a
  omega
/-- A task is stale if it fails, or needs one that does. -/
def Hit (l0 : List S74) (l1 : List Int) (i : Nat) : Prop := (i : Int) ∈ l1 ∨ ∃ c : Nat, (c : Int) ∈ l1 ∧ C.Reach (nds l0) i c
theorem hit_step {i : Nat} : Hit l0 l1 i ↔ (i : Int) ∈ l1 ∨ ∃ j, j ∈ nds l0 i ∧ Hit l0 l1 j := by
 constructor
 ·rintro (h | ⟨c, hc, hr⟩)
  ·exact .inl h
  ·obtain ⟨j, hj, e | hr'⟩ := reach_iff.1 hr
   ·exact .inr ⟨j, hj, .inl (e ▸ hc)⟩
   ·exact .inr ⟨j, hj, .inr ⟨c, hc, hr'⟩⟩
 ·rintro (h | ⟨j, hj, h | ⟨c, hc, hr⟩⟩)
  ·exact .inl h
  ·exact .inr ⟨j, h, .base hj⟩
  ·exact .inr ⟨c, hc, .step hj hr⟩
theorem outL_hit (hs : sok l0 l1 = true) (hk : 1 ≤ kI) (h3 : cntK (outL l0 l1 kI) 3 = 0) : ∀ i, i < l0.length → ((outL l0 l1 kI).getD i 0 = 0 ↔ ¬ Hit l0 l1 i) := by
 have hg := (sok_partsO hs).1
 refine (gok_full hg).ind (fun i hi ih => ?_)
 rw [outL_done hs hk h3 hi, hit_step]
 constructor
 ·rintro ⟨h1, h2⟩ (h | ⟨j, hj, h⟩)
  ·exact h1 h
  ·exact (ih j hj).1 (h2 j hj) h
 ·intro h
  exact ⟨fun e => h (.inl e), fun j hj => (ih j hj).2 (fun e => h (.inr ⟨j, hj, e⟩))⟩
/-- With eight failures kept going nobody is left. -/
theorem outL_all (hs : sok l0 l1 = true) : cntK (outL l0 l1 8) 3 = 0 := by
 have hg := (sok_partsO hs).1
 have h8 := gok8 hg
 have hlen := outL_len (l1 := l1) (kI := 8) hg
 refine cntK_zero (fun k hk he => ?_)
 rcases outL_val hs (by decide : (1 : Int) ≤ 8) (show k < l0.length by omega) with h' | h' | h' | h'
 ·rw [h'.1] at he; cases he
 ·rw [h'.1] at he; cases he
 ·rw [h'.1] at he; cases he
 ·have := cntK_lt (l := outL l0 l1 8) (c := 1) hk (by rw [he]; decide)
  omega
theorem outL_nil (hg : gok l0 = true) (hk : 1 ≤ kI) : outL l0 [] kI = List.replicate l0.length 0 := by
 have hs : sok l0 [] = true := by unfold sok; rw [hg]; rfl
 have hlen := outL_len (l1 := []) (kI := kI) hg
 have h1 : cntK (outL l0 [] kI) 1 = 0 := cntK_zero (fun k hk' he => by
  rcases outL_val hs hk (show k < l0.length by omega) with h' | h' | h' | h'
  ·rw [h'.1] at he; cases he
  ·cases h'.2.2
  ·rw [h'.1] at he; cases he
  ·rw [h'.1] at he; cases he)
 have h3 : cntK (outL l0 [] kI) 3 = 0 := by
  rcases (outL_keep hs hk).2 with h | h
  ·omega
  ·exact h
 refine List.ext_getElem (by simp [hlen]) (fun i h2 h4 => ?_)
 have hz := (outL_hit hs hk h3 i (by omega)).2 (fun h => by
  rcases h with h | ⟨c, hc, _⟩
  ·cases h
  ·cases hc)
 rw [List.getD_eq_getElem?_getD, List.getElem?_eq_getElem h2] at hz
 simpa using hz
/-- What came out once stays. -/
theorem oO_keep (hs : sok l0 l1 = true) (hk : 1 ≤ kI) : ∀ (rest pre : List Nat), Pre l0.length (nds l0) (pre ++ rest) → ∀ k, k ∈ pre → (oO l0 l1 kI (pre ++ rest)).getD k 0 = (oO l0 l1 kI pre).getD k 0 := by
 intro rest
 induction rest using snoc_ind with
 | h0 => intro pre _ k _; simp
 | hs rest x ih =>
  intro pre hp k hkp
  rw [← List.append_assoc] at hp ⊢
  obtain ⟨hpre, hxn, hx, hnx⟩ := pre_init hp
  have hi := outs_inv hs hk (pre ++ rest) hpre
  have hl : x < (oO l0 l1 kI (pre ++ rest)).length := by rw [hi.len]; exact hxn
  have hne : k ≠ x := fun e => hx (by rw [← e]; simp [hkp])
  rw [← ih pre hpre k hkp]
  rcases outs_turn hs hp hi with ⟨_, e1, _⟩ | ⟨_, _, e1, _⟩ | ⟨_, _, _, e1, _⟩ | ⟨_, _, _, e1, _⟩ <;> rw [e1, gset hl, if_neg hne]
/-- With one failure: nothing is skipped ahead of it. -/
theorem first_zero (hs : sok l0 l1 = true) (hk : 1 ≤ kI) : ∀ (done : List Nat), Pre l0.length (nds l0) done → oF l0 l1 kI done = 0 → ∀ k, (oO l0 l1 kI done).getD k 0 = 0 := by
 intro done
 induction done using snoc_ind with
 | h0 =>
  intro _ _ k
  show (List.replicate l0.length (0 : Int)).getD k 0 = 0
  rw [List.getD_eq_getElem?_getD, List.getElem?_replicate]
  split <;> rfl
 | hs pre x ih =>
  intro hp hf k
  obtain ⟨hpre, hxn, hx, hnx⟩ := pre_init hp
  have hi := outs_inv hs hk pre hpre
  have hl : x < (oO l0 l1 kI pre).length := by rw [hi.len]; exact hxn
  rcases outs_turn hs hp hi with ⟨c1, e1, _, e3⟩ | ⟨c1, ⟨j, hj, hj2⟩, e1, _, e3⟩ | ⟨c1, c2, c3, e1, _, e3⟩ | ⟨c1, c2, c3, e1, _, e3⟩
  ·rw [e3] at hf
   omega
  ·rw [e3] at hf
   exact absurd (ih hpre hf j) hj2
  ·rw [e3] at hf
   omega
  ·rw [e3] at hf
   rw [e1, gset hl]
   split
   ·rfl
   ·exact ih hpre hf k
/-- One failure more that is kept going: no fewer are done. -/
theorem outs_more (hs : sok l0 l1 = true) (hk : 1 ≤ kI) : ∀ (done : List Nat), Pre l0.length (nds l0) done →
  (outs (ndm l0) l0.length (maskGo 0 l1) kI done = outs (ndm l0) l0.length (maskGo 0 l1) (kI + 1) done) ∨ (kI ≤ (oF l0 l1 kI done : Int) ∧ ∀ k, k ∈ done → (oO l0 l1 kI done).getD k 0 = 0 → (oO l0 l1 (kI + 1) done).getD k 0 = 0) := by
 intro done
 induction done using snoc_ind with
 | h0 => intro _; exact .inl rfl
 | hs pre x ih =>
  intro hp
  obtain ⟨hpre, hxn, hx, hnx⟩ := pre_init hp
  have hi := outs_inv hs hk pre hpre
  have hi2 := outs_inv hs (show 1 ≤ kI + 1 by omega) pre hpre
  have hl : x < (oO l0 l1 kI pre).length := by rw [hi.len]; exact hxn
  have hl2 : x < (oO l0 l1 (kI + 1) pre).length := by rw [hi2.len]; exact hxn
  have hsat : kI ≤ (oF l0 l1 kI pre : Int) → (∀ k, k ∈ pre → (oO l0 l1 kI pre).getD k 0 = 0 → (oO l0 l1 (kI + 1) pre).getD k 0 = 0) → kI ≤ (oF l0 l1 kI (pre ++ [x]) : Int) ∧ ∀ k, k ∈ pre ++ [x] → (oO l0 l1 kI (pre ++ [x])).getD k 0 = 0 → (oO l0 l1 (kI + 1) (pre ++ [x])).getD k 0 = 0 := by
   intro hc hk0
   rcases outs_turn hs hp hi with ⟨c1, e1, _, e3⟩ | ⟨c1, _⟩ | ⟨c1, _⟩ | ⟨c1, _⟩
   ·refine ⟨by rw [e3]; exact hc, fun k hkm h0 => ?_⟩
    rw [e1, gset hl] at h0
    by_cases e : k = x
    ·rw [if_pos e] at h0
     cases h0
    ·rw [if_neg e] at h0
     have hkp : k ∈ pre := by
      rcases List.mem_append.1 hkm with h | h
      ·exact h
      ·exact absurd (List.mem_singleton.1 h) e
     rw [oO_keep hs (show 1 ≤ kI + 1 by omega) [x] pre hp k hkp]
     exact hk0 k hkp h0
   ·exact absurd hc c1
   ·exact absurd hc c1
   ·exact absurd hc c1
  rcases ih hpre with e | ⟨hc, hk0⟩
  ·by_cases hc : kI ≤ (oF l0 l1 kI pre : Int)
   ·refine .inr (hsat hc (fun k _ h => ?_))
    unfold oO at h ⊢
    rw [← e]
    exact h
   ·refine .inl ?_
    rw [outs_snoc, outs_snoc, ← e]
    have hc' : ¬ kI + 1 ≤ ((outs (ndm l0) l0.length (maskGo 0 l1) kI pre).2.2 : Int) := fun h => hc (by show kI ≤ _; unfold oF; omega)
    unfold ostep
    rw [if_neg hc, if_neg hc']
  ·exact .inr (hsat hc hk0)
theorem outL_more (hs : sok l0 l1 = true) (hk : 1 ≤ kI) : cntK (outL l0 l1 kI) 0 ≤ cntK (outL l0 l1 (kI + 1)) 0 := by
 have hg := (sok_partsO hs).1
 have h1 := outL_len (l1 := l1) (kI := kI) hg
 have h2 := outL_len (l1 := l1) (kI := kI + 1) hg
 rcases outs_more hs hk (ord l0) (topo_pre _ _) with e | ⟨_, h⟩
 ·unfold outL
  rw [e]
  exact Nat.le_refl _
 ·exact cntK_sub _ _ (by omega) (fun k hk' h0 => h k ((ord_mem hg).2 (by omega)) h0)
theorem outcomes_val (l0 : List S74) (l1 : List Int) (kI : Int) : ∃ out, impl_Outcomes.f l0 l1 kI = some out ∧ out.length ≤ 8 ∧ ((sok l0 l1 = true ∧ 1 ≤ kI ∧ kI ≤ 8 ∧ out = outL l0 l1 kI ∧ out.length = l0.length) ∨ out = []) := by
 unfold impl_Outcomes.f ook
 by_cases c : sok l0 l1 = true
 ·by_cases d : 1 ≤ kI ∧ kI ≤ 8
  ·have hg := (sok_partsO c).1
   have h8 := gok8 hg
   have hl := outL_len (l1 := l1) (kI := kI) hg
   exact ⟨outL l0 l1 kI, by rw [c, decide_eq_true d]; rfl, by omega, .inl ⟨c, d.1, d.2, rfl, hl⟩⟩
  ·exact ⟨[], by rw [c, decide_eq_false d]; rfl, by simp, .inr rfl⟩
 ·exact ⟨[], by rw [Bool.eq_false_iff.2 c]; rfl, by simp, .inr rfl⟩
theorem specOutcomes_eq {B : Nat} (hB : B ≤ 4611686018427387904) (hsm : Small B l0) (hl : l1.length ≤ B) (k : Nat) (hk : 2 * B + 600 < k) : spec_Outcomes.f k l0 l1 kI = impl_Outcomes.f l0 l1 kI := by
 unfold spec_Outcomes.f impl_Outcomes.f ook
 rw [validFails_eq hB hsm hl k (by omega), inRange_eq]
 simp only [Option.bind_some]
 by_cases c : sok l0 l1 = true
 ·by_cases d : 1 ≤ kI ∧ kI ≤ 8
  ·rw [if_pos c, if_pos (decide_eq_true d), c, decide_eq_true d, outcome_eq c d.1 k (by omega)]
   rfl
  ·rw [if_pos c, if_neg (by simpa using d), c, decide_eq_false d]
   rfl
 ·rw [if_neg c, Bool.eq_false_iff.2 c]
  rfl
theorem count_val (l0 : List S74) (l1 : List Int) (kI kd : Int) : ∃ v, impl_CountOutcome.f l0 l1 kI kd = some v ∧ ((sok l0 l1 = true ∧ 1 ≤ kI ∧ kI ≤ 8 ∧ 0 ≤ kd ∧ kd ≤ 3 ∧ v = (cntK (outL l0 l1 kI) kd : Nat)) ∨ v = -1) := by
 unfold impl_CountOutcome.f ook
 by_cases c : sok l0 l1 = true
 ·by_cases d : 1 ≤ kI ∧ kI ≤ 8
  ·by_cases q : 0 ≤ kd ∧ kd ≤ 3
   ·exact ⟨_, rfl, .inl ⟨c, d.1, d.2, q.1, q.2, by rw [c, decide_eq_true d, if_pos ⟨rfl, q⟩]⟩⟩
   ·exact ⟨-1, by rw [if_neg (fun e => q e.2)], .inr rfl⟩
  ·exact ⟨-1, by rw [c, decide_eq_false d, if_neg (fun e => by cases e.1)], .inr rfl⟩
 ·exact ⟨-1, by rw [Bool.eq_false_iff.2 c, if_neg (fun e => by cases e.1)], .inr rfl⟩
theorem count_of {l0 : List S74} {l1 : List Int} {kI kd : Int} (c : sok l0 l1 = true) (d : 1 ≤ kI ∧ kI ≤ 8) (q : 0 ≤ kd ∧ kd ≤ 3) : impl_CountOutcome.f l0 l1 kI kd = some ((cntK (outL l0 l1 kI) kd : Nat) : Int) := by
 unfold impl_CountOutcome.f ook
 rw [c, decide_eq_true d, if_pos ⟨rfl, q⟩]
theorem specCount_l0 (L : List Int) (hL : L.length ≤ 100) (kd : Int) : ∀ (rest pre : List Int) (k : Nat), L = pre ++ rest → rest.length < k → spec_CountOutcome.l0 k kd (cntK pre kd : Nat) L (pre.length : Int) = some ((cntK L kd : Nat) : Int) := by
 intro rest
 induction rest with
 | nil =>
  intro pre k e hk
  obtain ⟨k, rfl⟩ : ∃ m, k = m + 1 := ⟨k - 1, by omega⟩
  rw [spec_CountOutcome.l0, if_neg (by rw [e]; simp), show pre = L by rw [e]; simp]
 | cons x r ih =>
  intro pre k e hk
  obtain ⟨k, rfl⟩ : ∃ m, k = m + 1 := ⟨k - 1, by omega⟩
  simp only [List.length_cons] at hk
  have hlt : pre.length < L.length := by rw [e]; simp
  have hc := cntK_le pre kd
  have hn := cntK_snoc pre x kd
  rw [spec_CountOutcome.l0, if_pos (by omega), if_pos (by omega), show rd L (pre.length : Int) = x by rw [e]; exact rd_app _ _ _, nx (m := 100) (by omega) (by omega), show pre.length + 1 = (pre ++ [x]).length by simp]
  unfold spec_toInt.f
  have hih := ih (pre ++ [x]) k (by rw [e]; simp) (by omega)
  by_cases hx : x = kd
  ·rw [if_pos (by simpa using hx)]
   rw [if_pos hx] at hn
   simp only [Option.bind_some]
   rw [w64 (by omega) (by omega)]
   rw [hn] at hih
   simpa using hih
  ·rw [if_neg (by simpa using hx)]
   rw [if_neg hx] at hn
   simp only [Option.bind_some]
   rw [w64 (by omega) (by omega)]
   rw [hn] at hih
   simpa using hih
theorem specCount_eq {kd : Int} {B : Nat} (hB : B ≤ 4611686018427387904) (hsm : Small B l0) (hl : l1.length ≤ B) (k : Nat) (hk : 2 * B + 700 < k) : spec_CountOutcome.f k l0 l1 kI kd = impl_CountOutcome.f l0 l1 kI kd := by
 unfold spec_CountOutcome.f impl_CountOutcome.f ook
 rw [validFails_eq hB hsm hl k (by omega), inRange_eq, inRange_eq]
 simp only [Option.bind_some]
 obtain ⟨k, rfl⟩ : ∃ m, k = m + 1 := ⟨k - 1, by omega⟩
 by_cases c : sok l0 l1 = true
 ·by_cases d : 1 ≤ kI ∧ kI ≤ 8
  ·rw [if_pos c, if_pos (decide_eq_true d), c, decide_eq_true d, spec_CountOutcome.j0]
   by_cases q : 0 ≤ kd ∧ kd ≤ 3
   ·rw [decide_eq_true q, if_neg (by decide), if_pos ⟨rfl, q⟩, outcome_eq c d.1 k (by omega)]
    simp only [Option.bind_some]
    have h8 := gok8 (sok_partsO c).1
    have hlen := outL_len (l1 := l1) (kI := kI) (sok_partsO c).1
    have h := specCount_l0 (outL l0 l1 kI) (by omega) kd (outL l0 l1 kI) [] k rfl (by omega)
    simpa [cntK] using h
   ·rw [decide_eq_false q, if_pos (by decide), if_neg (fun e => q e.2)]
  ·rw [if_pos c, if_neg (by simpa using d), c, decide_eq_false d, spec_CountOutcome.j0, if_pos rfl, if_neg (fun e => by cases e.1)]
 ·rw [if_neg c, Bool.eq_false_iff.2 c, spec_CountOutcome.j0, if_pos rfl, if_neg (fun e => by cases e.1)]
end
end Go.Proofs.YtgdoajmgheokbaaDoor.G
